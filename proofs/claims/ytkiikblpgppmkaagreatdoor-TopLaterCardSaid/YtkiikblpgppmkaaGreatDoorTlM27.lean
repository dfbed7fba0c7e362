/-
  The document's components: what lies where; note, May; The document's components: Put, Take; The document's handles: what lies where; Of.
-/
import Derived.Test.YtkiikblpgppmkaaGreatDoorTlM26
import Derived.Test.YtkiikblpgppmkaaGreatDoorTlM19
import Derived.Test.YtkiikblpgppmkaaGreatDoorTlM22
import Derived.Test.YtkiikblpgppmkaaGreatDoorTlM12
import Derived.Test.YtkiikblpgppmkaaGreatDoorTlM18
namespace Go.Proofs.YtkiikblpgppmkaaGreatDoor
open Go Go.RowKit
set_option linter.unusedVariables false
set_option linter.unusedSimpArgs false

structure F5B where
  fb : Nat
  evs : List EvV
  a : Option Addr
  c : Nat
structure S5B where
  rows : List RowV
  ra : Option Addr
  rc : Nat
  fl : Option F5B
def f5P (o : Option F5B) : Value := match o with
  | none => .pointer none
  | some f => .pointer (some ⟨f.fb, 0, none⟩)
def f5A (bd : Nat) (o : Option F5B) : Asr := match o with
  | none => empA
  | some f => blkA f.fb #[.int .i64 (bd : Nat), .slice f.a f.evs.length f.c, .slice none 0 0] 306
def f5E (o : Option F5B) : Asr := match o with
  | none => empA
  | some f => slA 86 2 (.slice f.a f.evs.length f.c) f.evs.length (flatEv f.evs)
def s5X (d : DescV) (o : Option F5B) : T5B := ⟨.int .i64 (d.kd : Nat), .int .i64 (d.var : Nat), .int .i64 (d.bd : Nat), f5P o⟩
def S5Le (q : S5B) (N M : Nat) : Prop := q.rows.length ≤ N ∧ ∀ f, q.fl = some f → f.evs.length ≤ M
def s5L (b : Nat) (d : DescV) (q : S5B) : List Asr := t5L b (s5X d q.fl) q.rows q.ra q.rc ++ [f5A d.bd q.fl, f5E q.fl]
/-- A component of the document's: some rows, some events, not too many. -/
def s5A (b : Nat) (d : DescV) (N : Nat) : Asr := exA fun q => starA (s5L b d q ++ [pureA (S5Le q N N)])
theorem St.s5T {w0 w : World} {R : List Asr} {b : Nat} {d : DescV} {q : S5B} (h : St w0 w (s5L b d q ++ R)) : St w0 w (t5L b (s5X d q.fl) q.rows q.ra q.rc ++ ([f5A d.bd q.fl, f5E q.fl] ++ R)) := by
  unfold s5L at h
  rw [List.append_assoc] at h
  exact h
theorem St.s5T' {w0 w : World} {R : List Asr} {b : Nat} {d : DescV} {o : Option F5B} {rows : List RowV} {ra : Option Addr} {rc : Nat} (h : St w0 w (t5L b (s5X d o) rows ra rc ++ ([f5A d.bd o, f5E o] ++ R))) : St w0 w (s5L b d ⟨rows, ra, rc, o⟩ ++ R) := by
  unfold s5L
  rw [List.append_assoc]
  exact h
set_option maxRecDepth 100000 in
set_option maxHeartbeats 2000000 in
theorem s5_note {w0 w : World} {R : List Asr} {b : Nat} {d : DescV} {q : S5B} {N M : Nat} (H : St w0 w (s5L b d q ++ R)) (hq : S5Le q N M) (hM : M ≤ 900) (kd k : Nat) :
    Calls Tryz.prog 193 #[ptr b, .int .i64 (kd : Nat), .int .i64 (k : Nat)] w (fun e w' => e = .returned (.tuple #[]) ∧ ∃ q', S5Le q' N (M + 1) ∧ St w0 w' (s5L b d q' ++ R)) := by
  obtain ⟨rows, ra, rc, fl⟩ := q
  have c4 : w.cell? ⟨b, 4, none⟩ = some (f5P fl) := by rw [(H.blk 0 rfl).cell]; rfl
  obtain ⟨hq1, hq2⟩ := hq
  have HQ1 := Lib.hid hq1
  cases fl with
  | none =>
    have HH := Lib.hid H
    clear H hq1 hq2
    unfold ptr f5P at *
    go_enter Tryz.func193, Tryz.ntmps193
    go_wp2_with fail
    go_end0
    exact ⟨rfl, ⟨rows, ra, rc, none⟩, ⟨HQ1.out, fun f hf => by cases hf⟩, HH.out⟩
  | some f =>
    obtain ⟨fb, evs, ea, ec⟩ := f
    have hev := hq2 _ rfl
    obtain ⟨n, hn⟩ : ∃ n, evs.length = n := ⟨_, rfl⟩
    have HN := Lib.hid hn
    have hnM : n ≤ M := by rw [← hn]; exact hev
    have f1 : w.cell? ⟨fb, 1, none⟩ = some (.slice ea n ec) := by rw [← hn, (H.blk 2 (b := fb) (cs := #[.int .i64 (d.bd : Nat), .slice ea evs.length ec, .slice none 0 0]) (t := 306) rfl).cell]; rfl
    have hD := H.drew
    obtain ⟨G, hown, _, hup, _⟩ := hD.opens 3 (A := slA 86 2 (.slice ea evs.length ec) evs.length (flatEv evs)) rfl
    have HOwn := Lib.hid (show Own G w.drew 86 2 (.slice ea n ec) n (flatEv evs) from hn ▸ hown)
    have HUP := Lib.hid hup
    clear H hq1 hq2 hev hD hown hup hn
    unfold ptr f5P at *
    simp only at c4
    go_enter Tryz.func193, Tryz.ntmps193
    go_upto_region 1 with fail
    refine wp_region_M (r := 16) (S := fun w' => w'.cell? ⟨b, 4, none⟩ = some (.pointer (some ⟨fb, 0, none⟩)) ∧ w'.cell? ⟨fb, 1, none⟩ = some (.slice ea n ec)) (by kernel_rfl) ?_ (fun hHeld => ?_)
    · (try dsimp only); (first | exact ⟨c4, f1⟩ | exact ⟨((Keep.refl _ Nope).alloc _).cell c4 (fun f => f), ((Keep.refl _ Nope).alloc _).cell f1 (fun f => f)⟩)
    refine tkP 0 ?_; refine tkP 1 ?_; refine tkP 2 ?_; refine tkH 3 ?_; refine tkP 4 ?_; refine tkP 5 ?_; refine tkP 6 ?_; refine tkH 7 ?_; refine tkP 8 ?_; refine tkP 9 ?_; refine tkH 10 ?_; refine tkP 11 ?_; refine tkP 12 ?_; refine tkP 13 ?_; refine tkC 14 ?_
    intro K hK
    go_simp
    refine hK.out _ _ ?_ (fun hHeld => ?_)
    · (try dsimp only); (first | exact ⟨c4, f1⟩ | exact ⟨((Keep.refl _ Nope).alloc _).cell c4 (fun f => f), ((Keep.refl _ Nope).alloc _).cell f1 (fun f => f)⟩)
    clear hK K
    refine tkC 15 ?_
    intro K hK
    rw [if_pos (by rfl)]
    (refine step_app (P := Tryz.prog) slEv _ _ rfl (S := G) (S2 := fun z => z = w.drew.heap.size) (n := n) (xs := flatEv evs) (m := 1) (news := [.int .i64 (kd : Nat), .int .i64 (k : Nat)]) rfl rfl ?_ (Own.lit (S := fun z => z = w.drew.heap.size) w.drew 86 2 1 #[.int .i64 (kd : Nat), .int .i64 (k : Nat)] (by decide) rfl rfl).rd rfl (by intro u hu; simp at hu; rcases hu with rfl | rfl <;> rfl) (by omega) (by unfold maxLen; omega) ?_; (· exact HOwn.out.keep (T := Nope) ((Keep.refl w.drew Nope).alloc _) (fun _ _ f => f)); intro a' k' c' w6 happ; obtain ⟨z1, z2⟩ := app_up (wr := w.drew) ((Keep.refl w.drew Nope).alloc _) happ; obtain rfl := happ.num; have h6 := HUP.out w6 _ z1 z2; have H6 := Lib.hid h6; clear happ z1 z2 h6; have c4 : w6.cell? ⟨b, 4, none⟩ = some (.pointer (some ⟨fb, 0, none⟩)) := (by rw [(H6.out.blk 0 rfl).cell]; rfl); have f1 : w6.cell? ⟨fb, 1, none⟩ = some (.slice ea n ec) := (by rw [← HN.out, (H6.out.blk 2 (b := fb) (cs := #[.int .i64 (d.bd : Nat), .slice ea evs.length ec, .slice none 0 0]) (t := 306) rfl).cell]; rfl); have y1 := (H6.out.blk 2 (b := fb) (cs := #[.int .i64 (d.bd : Nat), .slice ea evs.length ec, .slice none 0 0]) (t := 306) rfl).frozen 1)
    refine hK.out _ _ ?_ (fun hHeld => ?_)
    · (try dsimp only); (first | exact ⟨c4, f1⟩ | exact ⟨((Keep.refl _ Nope).alloc _).cell c4 (fun f => f), ((Keep.refl _ Nope).alloc _).cell f1 (fun f => f)⟩)
    clear hK K
    (try simp only [List.getElem_toArray, List.getElem_cons_succ, List.getElem_cons_zero, Act.put, List.setIfInBounds_toArray, List.set_cons_zero, List.set_cons_succ])
    refine tkF 16 ?_
    intro K hK
    go_simp
    refine hK.out _ _ ?_
    clear hK K
    refine tkP 17 ?_; refine tkF 18 ?_
    intro K hK
    go_simp
    refine hK.out _ _ ?_
    clear hK K
    refine wpAnyM_done (by kernel_rfl) ?_ _
    clear hHeld
    have h7 := H6.out.write 2 (b := fb) (cs := #[.int .i64 (d.bd : Nat), .slice ea evs.length ec, .slice none 0 0]) (t := 306) rfl 1 (.slice a' (n + 1) c')
    go_wp2_with fail
    go_end0
    refine ⟨rfl, ⟨rows, ra, rc, some ⟨fb, evs ++ [⟨kd, k⟩], a', c'⟩⟩, ⟨HQ1.out, fun f hf => ?_⟩, ?_⟩
    · cases hf
      show (evs ++ [_]).length ≤ M + 1
      rw [List.length_append, HN.out]
      exact Nat.succ_le_succ hnM
    · have hl : (evs ++ [(⟨kd, k⟩ : EvV)]).length = n + 1 := by rw [List.length_append, HN.out]; rfl
      unfold s5L f5A f5E
      simp only [hl, flatEv_app]
      exact h7
set_option maxRecDepth 100000 in
set_option maxHeartbeats 1000000 in
theorem s5_may {w0 w : World} {R : List Asr} {b : Nat} {d : DescV} {q : S5B} (H : St w0 w (s5L b d q ++ R)) (k : Nat) (hk : k < 64) (v : VV) (hv : okV v.k v.a v.b = true) (hd : v.k = d.kd) :
    Calls Tryz.prog 194 #[ptr b, .int .i64 (k : Nat), v.val] w (Ret w (.int .i64 0)) := by
  obtain ⟨vk, va, vb⟩ := v
  simp only at hv hd
  have hk1 := (Keep.refl w Nope).alloc (.cells #[.int .i64 vk, .int .i64 va, .int .i64 vb] 34)
  have HB := H.keep hk1
  obtain ⟨v0, v1, v2, _, _, _⟩ := (Blk.new w #[.int .i64 vk, .int .i64 va, .int .i64 vb] 34).three
  have c0 : (w.alloc (.cells #[.int .i64 vk, .int .i64 va, .int .i64 vb] 34)).cell? ⟨b, 0, none⟩ = some (.int .i64 vk) := by rw [(HB.blk 0 rfl).cell, hd]; rfl
  have HI := Lib.hid (c5_index k hk)
  have HO := Lib.hid (ref_ok vk va vb)
  rw [hv] at HO
  clear H HB hk hv hk1 hd
  obtain ⟨wa, hwa⟩ : ∃ wa, w.alloc (.cells #[.int .i64 vk, .int .i64 va, .int .i64 vb] 34) = wa := ⟨_, rfl⟩
  have HKA := Lib.hid (show Keep w wa Nope from hwa ▸ (Keep.refl w Nope).alloc _)
  rw [hwa] at v0 v1 v2 c0
  unfold ptr VV.val
  go_enter Tryz.func194, Tryz.ntmps194
  go_upto_region 3 with (go_at_call 241; refine (HI.out _).mono ?_; rintro e w1 ⟨rfl, rfl⟩)
  try rw [hwa]
  clear hwa
  refine wp_region_held_drew (S := fun w' => w'.cell? ⟨w.heap.size, 0, none⟩ = some (.int .i64 vk) ∧ w'.cell? ⟨w.heap.size, 1, none⟩ = some (.int .i64 va) ∧ w'.cell? ⟨w.heap.size, 2, none⟩ = some (.int .i64 vb) ∧ w'.cell? ⟨b, 0, none⟩ = some (.int .i64 vk)) (by kernel_rfl) ?_ (fun hHeld => ?_)
  · (try dsimp only); (first | exact ⟨v0, v1, v2, c0⟩ | exact ⟨HK2.out.cell v0 (fun f => f), HK2.out.cell v1 (fun f => f), HK2.out.cell v2 (fun f => f), HK2.out.cell c0 (fun f => f)⟩)
  refine tkW 0 ?_
  refine wpAnyH_ready (rs := [1]) (by kernel_rfl) (by simp) ?_
  refine AllReadyH.cons rfl (fun K hK => ?_) (AllReadyH.nil)
  go_simp
  go_wp2_with ((go_at_call 223; refine (HO.out _).mono ?_; rintro e w2 ⟨rfl, hk2⟩; have HK2 := Lib.hid ((Keep.refl wa Nope).drew.trans hk2 (fun _ f => f.elim)); clear hk2))
  refine hK.out _ _ ?_ (fun hHeld => ?_)
  · (try dsimp only); (first | exact ⟨v0, v1, v2, c0⟩ | exact ⟨HK2.out.cell v0 (fun f => f), HK2.out.cell v1 (fun f => f), HK2.out.cell v2 (fun f => f), HK2.out.cell c0 (fun f => f)⟩)
  clear hK K
  refine tkW 2 ?_; refine tkW 3 ?_; refine tkW 4 ?_; refine tkW 5 ?_; refine tkW 6 ?_; refine tkW 7 ?_; refine tkW 8 ?_; refine tkW 9 ?_; refine tkW 10 ?_; refine tkW 11 ?_; refine tkW 12 ?_; refine tkW 13 ?_
  refine wpAnyH_done (by kernel_rfl) ?_ _
  go_wp2_with fail
  go_ret
  exact ⟨rfl, HKA.out.trans HK2.out (fun _ f => f.elim)⟩
end Go.Proofs.YtkiikblpgppmkaaGreatDoor

namespace Go.Proofs.YtkiikblpgppmkaaGreatDoor
open Go Go.RowKit
set_option linter.unusedVariables false
set_option linter.unusedSimpArgs false

def Cut5P (w0 : World) (R : List Asr) (b : Nat) (d : DescV) (N M : Nat) (X : List Asr) (v10 v11 : Value) (wc : World) : Prop :=
  ∃ (ob : Nat) (o0 o1 o2 : Int) (t : Bool) (q : S5B), v10 = .pointer (some ⟨ob, 0, none⟩) ∧ v11 = .bool t ∧ S5Le q N M ∧ St w0 wc (blkA ob #[.int .i64 o0, .int .i64 o1, .int .i64 o2] 34 :: (X ++ (s5L b d q ++ R)))
def Ret5Put (w0 : World) (R : List Asr) (b : Nat) (d : DescV) (N M : Nat) (e : Ending) (w' : World) : Prop :=
  ∃ (o0 o1 o2 : Int) (t : Bool) (q : S5B), e = .returned (.tuple #[.agg #[.int .i64 o0, .int .i64 o1, .int .i64 o2], .bool t, .int .i64 0]) ∧ S5Le q N M ∧ St w0 w' (s5L b d q ++ R)
set_option maxRecDepth 100000 in
set_option maxHeartbeats 4000000 in
theorem s5_put {w0 w : World} {R : List Asr} {b : Nat} {d : DescV} {q : S5B} {N M : Nat} (H : St w0 w (s5L b d q ++ R)) (hq : S5Le q N M) (hN : N ≤ 900) (hM : M ≤ 900) (k : Nat) (hk : k < 64) (v : VV) (hv : okV v.k v.a v.b = true) (hd : v.k = d.kd) :
    Calls Tryz.prog 109 #[ptr b, .int .i64 (k : Nat), v.val] w (Ret5Put w0 R b d (N + 1) (M + 1)) := by
  have HMay := Lib.hid (fun (w' : World) (R' : List Asr) (h : St w0 w' (s5L b d q ++ R')) => s5_may h k hk v hv hd)
  have HPut := Lib.hid (fun (w' : World) (R' : List Asr) (h : St w0 w' (s5L b d q ++ R')) => t5_put (St.s5T h) (Nat.le_trans hq.1 (by omega)) k hk v)
  have HQ := Lib.hid hq
  obtain ⟨vk, va, vb⟩ := v
  have HB := H.box2 #[.int .i64 vk, .int .i64 va, .int .i64 vb] #[.int .i64 0, .int .i64 0, .int .i64 0] 34 34
  obtain ⟨wa, hwa⟩ : ∃ wa, (w.alloc (.cells #[.int .i64 vk, .int .i64 va, .int .i64 vb] 34)).alloc (.cells #[.int .i64 0, .int .i64 0, .int .i64 0] 34) = wa := ⟨_, rfl⟩
  obtain ⟨vb0, hvb⟩ : ∃ vb0, w.heap.size = vb0 := ⟨_, rfl⟩
  obtain ⟨rb, hrb⟩ : ∃ rb, vb0 + 1 = rb := ⟨_, rfl⟩
  rw [hwa, hvb, hrb] at HB
  obtain ⟨v0, v1, v2, _, _, _⟩ := (HB.blk 1 rfl).three
  have HBH := Lib.hid HB
  have HM1 := Lib.hid (HMay.out _ _ (St.rot2 HB))
  clear H HB hq hd hv HMay
  unfold ptr VV.val at *
  simp only at HPut HM1
  go_enter Tryz.func109, Tryz.ntmps109
  go_upto_region 1 with fail
  try rw [hwa]
  try rw [hvb]
  try rw [hrb]
  clear hwa hvb hrb
  go_upto_region 4 with (go_at_call 194; refine HM1.out.mono ?_; rintro e w1 ⟨rfl, hk1⟩; have HB1 := Lib.hid (HBH.out.keep hk1); clear hk1 HM1)
  have HCUR := Lib.hid HB1.out.drew
  go_cut [10, 11] (fun v10 v11 wc => Cut5P w0 R b d (N + 1) M [blkA rb #[.int .i64 0, .int .i64 0, .int .i64 0] 34, blkA vb0 #[.int .i64 vk, .int .i64 va, .int .i64 vb] 34] v10 v11 wc)
  case first =>
    clear v0 v1 v2 HBH
    obtain ⟨x0, x1, x2, _, _, _⟩ := (HB1.out.blk 1 (cs := #[.int .i64 vk, .int .i64 va, .int .i64 vb]) rfl).three
    refine wp_region_M (r := 5) (S := fun w' => w'.cell? ⟨vb0, 0, none⟩ = some (.int .i64 vk) ∧ w'.cell? ⟨vb0, 1, none⟩ = some (.int .i64 va) ∧ w'.cell? ⟨vb0, 2, none⟩ = some (.int .i64 vb)) (by kernel_rfl) ?_ (fun hHeld => ?_)
    · (try dsimp only); first | exact ⟨x0, x1, x2⟩ | exact ⟨((Keep.refl w1 Nope).drew.alloc _).cell x0 (fun f => f), ((Keep.refl w1 Nope).drew.alloc _).cell x1 (fun f => f), ((Keep.refl w1 Nope).drew.alloc _).cell x2 (fun f => f)⟩
    refine tkP 0 ?_; refine tkP 1 ?_; refine tkP 2 ?_; refine tkP 3 ?_; refine tkH 4 ?_
    refine wpAnyM_ready (rs := [5, 9]) (by kernel_rfl) (by simp) ?_
    refine AllReadyM.free (o := ?_) ?_ (by kernel_rfl) ?_ ?_
    rotate_left 1
    · simp only [List.getElem?_toArray, List.getElem?_cons_succ, List.getElem?_cons_zero]; exact rfl
    · intro K hK
      go_simp
      go_wp2_with ((first | (refine (HPut.out _ _ (St.rot2 HCUR.out)).mono ?_; rintro e w2 ⟨o0, o1, o2, t, rows', ra', rc', rfl, hl, h2⟩; have H2 := Lib.hid (St.unrot2 (St.s5T' h2)); have HL := Lib.hid hl; clear h2 hl) | (refine (HPut.out _ _ (St.rot3 (HB1.out.box0 #[.int .i64 0, .int .i64 0, .int .i64 0] 34).drew)).mono ?_; rintro e w2 ⟨o0, o1, o2, t, rows', ra', rc', rfl, hl, h2⟩; have H2 := Lib.hid (St.unrot3 (St.s5T' h2)); have HL := Lib.hid hl; clear h2 hl; obtain ⟨z0, z1, z2, y0, y1, y2⟩ := (H2.out.blk 0 rfl).three)))
      refine hK.out _ _ ?_
      clear hK K
      refine tkP 6 ?_; refine tkP 7 ?_; refine tkP 8 ?_; refine tkF 9 ?_
      intro K hK
      go_simp
      refine hK.out _ _ ?_
      clear hK K
      refine tkF 10 ?_
      intro K hK
      go_simp
      refine hK.out _ _ ?_
      clear hK K
      refine tkP 11 ?_
      refine wpAnyM_done (by kernel_rfl) ?_ _
      go_wp2_with fail
      go_meet
      case rel =>
        first
          | exact ⟨w2.heap.size, o0, o1, o2, t, ⟨rows', ra', rc', q.fl⟩, rfl, rfl, ⟨Nat.le_trans HL.out (Nat.succ_le_succ HQ.out.1), HQ.out.2⟩, H2.out.box0 _ _⟩
          | exact ⟨w1.heap.size, o0, o1, o2, t, ⟨rows', ra', rc', q.fl⟩, rfl, rfl, ⟨Nat.le_trans HL.out (Nat.succ_le_succ HQ.out.1), HQ.out.2⟩, H2.out.write3 _ _ _⟩
    refine AllReadyM.cons (o := ?_) ?_ ?_ ?_
    rotate_left 1
    · simp only [List.getElem?_toArray, List.getElem?_cons_succ, List.getElem?_cons_zero]; exact rfl
    · intro K hK
      go_simp
      refine hK.out _ _ ?_ (fun hHeld => ?_)
      · (try dsimp only); first | exact ⟨x0, x1, x2⟩ | exact ⟨((Keep.refl w1 Nope).drew.alloc _).cell x0 (fun f => f), ((Keep.refl w1 Nope).drew.alloc _).cell x1 (fun f => f), ((Keep.refl w1 Nope).drew.alloc _).cell x2 (fun f => f)⟩
      clear hK K
      refine tkF 5 ?_
      intro K hK
      go_simp
      go_wp2_with ((first | (refine (HPut.out _ _ (St.rot2 HCUR.out)).mono ?_; rintro e w2 ⟨o0, o1, o2, t, rows', ra', rc', rfl, hl, h2⟩; have H2 := Lib.hid (St.unrot2 (St.s5T' h2)); have HL := Lib.hid hl; clear h2 hl) | (refine (HPut.out _ _ (St.rot3 (HB1.out.box0 #[.int .i64 0, .int .i64 0, .int .i64 0] 34).drew)).mono ?_; rintro e w2 ⟨o0, o1, o2, t, rows', ra', rc', rfl, hl, h2⟩; have H2 := Lib.hid (St.unrot3 (St.s5T' h2)); have HL := Lib.hid hl; clear h2 hl; obtain ⟨z0, z1, z2, y0, y1, y2⟩ := (H2.out.blk 0 rfl).three)))
      refine hK.out _ _ ?_
      clear hK K
      refine tkP 6 ?_; refine tkP 7 ?_; refine tkP 8 ?_; refine tkF 10 ?_
      intro K hK
      go_simp
      refine hK.out _ _ ?_
      clear hK K
      refine tkP 11 ?_
      refine wpAnyM_done (by kernel_rfl) ?_ _
      go_wp2_with fail
      go_meet
      case rel =>
        first
          | exact ⟨w2.heap.size, o0, o1, o2, t, ⟨rows', ra', rc', q.fl⟩, rfl, rfl, ⟨Nat.le_trans HL.out (Nat.succ_le_succ HQ.out.1), HQ.out.2⟩, H2.out.box0 _ _⟩
          | exact ⟨w1.heap.size, o0, o1, o2, t, ⟨rows', ra', rc', q.fl⟩, rfl, rfl, ⟨Nat.le_trans HL.out (Nat.succ_le_succ HQ.out.1), HQ.out.2⟩, H2.out.write3 _ _ _⟩
    exact AllReadyM.nil
  case rest =>
    obtain ⟨ob, o0, o1, o2, t, q2, rfl, rfl, hq2, hst⟩ := hcut
    have HQ2 := Lib.hid hq2
    have H2 := Lib.hid hst
    have HNo := Lib.hid (fun (kd : Nat) => s5_note (St.rot3 hst) hq2 hM kd k)
    clear hst hq2 HB1 HCUR HPut v0 v1 v2 HBH
    unfold ptr at HNo
    cases t with
    | false =>
      go_wp2_with (go_at_call 193; refine (HNo.out 1).mono ?_; rintro e w3 ⟨rfl, q3, hq3, h3⟩; have HQ3 := Lib.hid hq3; have H3 := Lib.hid (St.unrot3 h3); clear h3 hq3 HNo; obtain ⟨z0, z1, z2, _, _, _⟩ := (H3.out.blk 0 rfl).three; obtain ⟨r0, r1, r2, y0, y1, y2⟩ := (H3.out.blk 1 rfl).three)
      have h4 := ((H3.out.write 1 rfl 0 (.int .i64 o0)).write 1 rfl 1 (.int .i64 o1)).write 1 rfl 2 (.int .i64 o2)
      obtain ⟨w4, hw4⟩ : ∃ w4, ((w3.setCell ⟨rb, 0, none⟩ (.int .i64 o0)).setCell ⟨rb, 1, none⟩ (.int .i64 o1)).setCell ⟨rb, 2, none⟩ (.int .i64 o2) = w4 := ⟨_, rfl⟩
      rw [hw4] at h4
      try rw [hw4]
      obtain ⟨p0, p1, p2, _, _, _⟩ := (show Blk w4 rb #[.int .i64 o0, .int .i64 o1, .int .i64 o2] 34 from h4.blk 1 rfl).three
      refine bodyPost_ret (v := .tuple #[.agg #[.int .i64 o0, .int .i64 o1, .int .i64 o2], .bool false, .int .i64 0]) (by simp [results, Tryz.results109, go_sem, p0, p1, p2]) rfl ⟨o0, o1, o2, false, q3, rfl, HQ3.out, h4.rest.rest.rest⟩
    | true =>
      go_wp2_with (go_at_call 193; refine (HNo.out 2).mono ?_; rintro e w3 ⟨rfl, q3, hq3, h3⟩; have HQ3 := Lib.hid hq3; have H3 := Lib.hid (St.unrot3 h3); clear h3 hq3 HNo; obtain ⟨z0, z1, z2, _, _, _⟩ := (H3.out.blk 0 rfl).three; obtain ⟨r0, r1, r2, y0, y1, y2⟩ := (H3.out.blk 1 rfl).three)
      have h4 := ((H3.out.write 1 rfl 0 (.int .i64 o0)).write 1 rfl 1 (.int .i64 o1)).write 1 rfl 2 (.int .i64 o2)
      obtain ⟨w4, hw4⟩ : ∃ w4, ((w3.setCell ⟨rb, 0, none⟩ (.int .i64 o0)).setCell ⟨rb, 1, none⟩ (.int .i64 o1)).setCell ⟨rb, 2, none⟩ (.int .i64 o2) = w4 := ⟨_, rfl⟩
      rw [hw4] at h4
      try rw [hw4]
      obtain ⟨p0, p1, p2, _, _, _⟩ := (show Blk w4 rb #[.int .i64 o0, .int .i64 o1, .int .i64 o2] 34 from h4.blk 1 rfl).three
      refine bodyPost_ret (v := .tuple #[.agg #[.int .i64 o0, .int .i64 o1, .int .i64 o2], .bool true, .int .i64 0]) (by simp [results, Tryz.results109, go_sem, p0, p1, p2]) rfl ⟨o0, o1, o2, true, q3, rfl, HQ3.out, h4.rest.rest.rest⟩
def Ret5Take (w0 : World) (R : List Asr) (b : Nat) (d : DescV) (N M : Nat) (e : Ending) (w' : World) : Prop :=
  ∃ (o0 o1 o2 : Int) (t : Bool) (q : S5B), e = .returned (.tuple #[.agg #[.int .i64 o0, .int .i64 o1, .int .i64 o2], .bool t]) ∧ S5Le q N M ∧ St w0 w' (s5L b d q ++ R)
set_option maxRecDepth 100000 in
set_option maxHeartbeats 4000000 in
theorem s5_take {w0 w : World} {R : List Asr} {b : Nat} {d : DescV} {q : S5B} {N M : Nat} (H : St w0 w (s5L b d q ++ R)) (hq : S5Le q N M) (hN : N ≤ 900) (hM : M ≤ 900) (k : Nat) (hk : k < 64) :
    Calls Tryz.prog 106 #[ptr b, .int .i64 (k : Nat)] w (Ret5Take w0 R b d N (M + 1)) := by
  have HTake := Lib.hid (fun (w' : World) (R' : List Asr) (h : St w0 w' (s5L b d q ++ R')) => t5_take (St.s5T h) (Nat.le_trans hq.1 (by omega)) k hk)
  have HQ := Lib.hid hq
  have HB := H.box0 #[.int .i64 0, .int .i64 0, .int .i64 0] 34
  obtain ⟨wa, hwa⟩ : ∃ wa, w.alloc (.cells #[.int .i64 0, .int .i64 0, .int .i64 0] 34) = wa := ⟨_, rfl⟩
  obtain ⟨rb, hrb⟩ : ∃ rb, w.heap.size = rb := ⟨_, rfl⟩
  rw [hwa, hrb] at HB
  have HM1 := Lib.hid (HTake.out _ _ (St.rot1 HB))
  clear H HB hq HTake
  unfold ptr at *
  go_enter Tryz.func106, Tryz.ntmps106
  go_upto_region 1 with fail
  try rw [hwa]
  try rw [hrb]
  clear hwa hrb
  go_upto_region 2 with (go_at_call 192; refine HM1.out.mono ?_; rintro e w2 ⟨o0, o1, o2, t, rows', ra', rc', rfl, hl, h2⟩; have H2 := Lib.hid ((St.unrot1 (St.s5T' h2)).box0 #[.int .i64 o0, .int .i64 o1, .int .i64 o2] 34); have HL := Lib.hid hl; clear h2 hl HM1)
  obtain ⟨q2, hqe⟩ : ∃ q2 : S5B, ⟨rows', ra', rc', q.fl⟩ = q2 := ⟨_, rfl⟩
  have HQ2 := Lib.hid (show S5Le q2 N M by rw [← hqe]; exact ⟨Nat.le_trans HL.out HQ.out.1, HQ.out.2⟩)
  have hst := H2.out
  rw [hqe] at hst
  obtain ⟨ob, hob⟩ : ∃ ob, w2.heap.size = ob := ⟨_, rfl⟩
  obtain ⟨wc, hwc⟩ : ∃ wc, w2.alloc (.cells #[.int .i64 o0, .int .i64 o1, .int .i64 o2] 34) = wc := ⟨_, rfl⟩
  rw [hob, hwc] at hst
  rw [hob, hwc]
  have HNo := Lib.hid (fun (kd : Nat) => s5_note (St.rot2 hst) HQ2.out hM kd k)
  clear hob hwc hqe H2 HQ HL
  unfold ptr at HNo
  cases t with
  | false =>
    have H3 := Lib.hid hst
    have HQ3 := Lib.hid (show S5Le q2 N (M + 1) from ⟨HQ2.out.1, fun f hf => Nat.le_succ_of_le (HQ2.out.2 f hf)⟩)
    obtain ⟨z0, z1, z2, _, _, _⟩ := (H3.out.blk 0 rfl).three
    obtain ⟨r0, r1, r2, y0, y1, y2⟩ := (H3.out.blk 1 rfl).three
    clear hst HNo
    go_wp2_with fail
    have h4 := ((H3.out.write 1 rfl 0 (.int .i64 o0)).write 1 rfl 1 (.int .i64 o1)).write 1 rfl 2 (.int .i64 o2)
    obtain ⟨w4, hw4⟩ : ∃ w4, ((wc.setCell ⟨rb, 0, none⟩ (.int .i64 o0)).setCell ⟨rb, 1, none⟩ (.int .i64 o1)).setCell ⟨rb, 2, none⟩ (.int .i64 o2) = w4 := ⟨_, rfl⟩
    rw [hw4] at h4
    try rw [hw4]
    obtain ⟨p0, p1, p2, _, _, _⟩ := (show Blk w4 rb #[.int .i64 o0, .int .i64 o1, .int .i64 o2] 34 from h4.blk 1 rfl).three
    refine bodyPost_ret (v := .tuple #[.agg #[.int .i64 o0, .int .i64 o1, .int .i64 o2], .bool false]) (by simp [results, Tryz.results106, go_sem, p0, p1, p2]) rfl ⟨o0, o1, o2, false, q2, rfl, HQ3.out, h4.rest.rest⟩
  | true =>
    clear hst
    go_wp2_with (go_at_call 193; refine (HNo.out 3).mono ?_; rintro e w3 ⟨rfl, q3, hq3, h3⟩; have HQ3 := Lib.hid hq3; have H3 := Lib.hid (St.unrot2 h3); clear h3 hq3 HNo; obtain ⟨z0, z1, z2, _, _, _⟩ := (H3.out.blk 0 rfl).three; obtain ⟨r0, r1, r2, y0, y1, y2⟩ := (H3.out.blk 1 rfl).three)
    have h4 := ((H3.out.write 1 rfl 0 (.int .i64 o0)).write 1 rfl 1 (.int .i64 o1)).write 1 rfl 2 (.int .i64 o2)
    obtain ⟨w4, hw4⟩ : ∃ w4, ((w3.setCell ⟨rb, 0, none⟩ (.int .i64 o0)).setCell ⟨rb, 1, none⟩ (.int .i64 o1)).setCell ⟨rb, 2, none⟩ (.int .i64 o2) = w4 := ⟨_, rfl⟩
    rw [hw4] at h4
    try rw [hw4]
    obtain ⟨p0, p1, p2, _, _, _⟩ := (show Blk w4 rb #[.int .i64 o0, .int .i64 o1, .int .i64 o2] 34 from h4.blk 1 rfl).three
    refine bodyPost_ret (v := .tuple #[.agg #[.int .i64 o0, .int .i64 o1, .int .i64 o2], .bool true]) (by simp [results, Tryz.results106, go_sem, p0, p1, p2]) rfl ⟨o0, o1, o2, true, q3, rfl, HQ3.out, h4.rest.rest⟩
end Go.Proofs.YtkiikblpgppmkaaGreatDoor

namespace Go.Proofs.YtkiikblpgppmkaaGreatDoor
open Go Go.RowKit
set_option linter.unusedVariables false
set_option linter.unusedSimpArgs false

structure A5B where
  ga : Option Addr
  gc : Nat
  sa : Option Addr
  sc : Nat
/-- Size, top, generations, states (0 free, 1 live, 2 raised, 9 spent). -/
structure A5S where
  n : Nat
  top : Nat
  gs : List Nat
  ss : List Nat
def a5L (b : Nat) (x : A5S) (q : A5B) : List Asr := [blkA b #[.int .i64 (x.n : Nat), .int .i64 (x.top : Nat), .slice q.ga x.gs.length q.gc, .slice q.sa x.ss.length q.sc] 180, slA 2 1 (.slice q.ga x.gs.length q.gc) x.gs.length (intsN x.gs), slA 3 1 (.slice q.sa x.ss.length q.sc) x.ss.length (intsN x.ss)]
/-- What is so of them. -/
structure A5S.Ok (x : A5S) : Prop where
  same : x.gs.length = x.ss.length
  le : x.ss.length ≤ x.n
  n : x.n ≤ 64
def A5S.st (x : A5S) (i g : Int) : Nat := if 0 ≤ i ∧ i < (x.ss.length : Int) ∧ (x.gs.getD i.toNat 0 : Int) = g then (if x.ss.getD i.toNat 0 = 1 ∨ x.ss.getD i.toNat 0 = 2 then x.ss.getD i.toNat 0 else 0) else 0
theorem intsN_get {l : List Nat} {j k : Nat} (h : l[j]? = some k) : (intsN l)[j]? = some (.int .i64 (k : Nat)) := by
  unfold intsN
  rw [List.getElem?_map, h]
  rfl
set_option maxRecDepth 100000 in
set_option maxHeartbeats 1000000 in
theorem a5_of {w0 w : World} {R : List Asr} {b : Nat} {x : A5S} {q : A5B} (H : St w0 w (a5L b x q ++ R)) (hx : x.Ok) (i g : Int) :
    Calls Tryz.prog 156 #[ptr b, hdV i g] w (Ret w (.int .i64 (x.st i g : Nat))) := by
  obtain ⟨ga, gc, sa, sc⟩ := q
  have hk1 := (show Keep w (w.alloc (.cells #[.int .i64 i, .int .i64 g] 45)) Nope from (Keep.refl w Nope).alloc _)
  have HB := H.box0 #[.int .i64 i, .int .i64 g] 45
  obtain ⟨wa, hwa⟩ : ∃ wa, w.alloc (.cells #[.int .i64 i, .int .i64 g] 45) = wa := ⟨_, rfl⟩
  rw [hwa] at hk1 HB
  obtain ⟨n, hn⟩ : ∃ n, x.ss.length = n := ⟨_, rfl⟩
  have hgn : x.gs.length = n := hx.same.trans hn
  have hn64 : n ≤ 64 := by have := hx.le; have := hx.n; omega
  obtain ⟨y0, y1, _, _⟩ := (HB.blk 0 rfl).two
  have c2 : wa.cell? ⟨b, 2, none⟩ = some (.slice ga n gc) := by rw [← hgn, (HB.blk 1 rfl).cell]; rfl
  have c3 : wa.cell? ⟨b, 3, none⟩ = some (.slice sa n sc) := by rw [← hn, (HB.blk 1 rfl).cell]; rfl
  have HK := Lib.hid hk1
  unfold A5S.st
  rw [hn]
  by_cases h1 : i < 0
  · have e1 : decide (i < 0) = true := decide_eq_true h1
    rw [if_neg (by omega)]
    clear H HB hk1
    unfold ptr hdV
    go_enter Tryz.func156, Tryz.ntmps156
    go_upto_region 1 with fail
    clear hwa
    go_quiet (fail)
    go_wp2_with fail
    go_ret
    exact ⟨rfl, HK.out.drewN _⟩
  · have e1 : decide (i < 0) = false := decide_eq_false h1
    obtain ⟨j, rfl⟩ : ∃ j : Nat, i = j := ⟨i.toNat, by omega⟩
    by_cases h2 : j < n
    · have e2 : decide ((j : Int) ≥ (n : Int)) = false := decide_eq_false (by omega)
      obtain ⟨G1, _, hr1, _⟩ := HB.rd 2 (e := 2) (size := 1) (n := x.gs.length) (v := .slice ga x.gs.length gc) (xs := intsN x.gs) rfl
      obtain ⟨G2, _, hr2, _⟩ := HB.rd 3 (e := 3) (size := 1) (n := x.ss.length) (v := .slice sa x.ss.length sc) (xs := intsN x.ss) rfl
      obtain ⟨gj, hgj⟩ : ∃ v, x.gs[j]? = some v := ⟨_, List.getElem?_eq_getElem (by omega)⟩
      obtain ⟨sj, hsj⟩ : ∃ v, x.ss[j]? = some v := ⟨_, List.getElem?_eq_getElem (by omega)⟩
      have hG : x.gs.getD j 0 = gj := by rw [List.getD_eq_getElem?_getD, hgj]; rfl
      have hS : x.ss.getD j 0 = sj := by rw [List.getD_eq_getElem?_getD, hsj]; rfl
      obtain ⟨a1, k1, hv1, _, _, _, hc1⟩ := hr1
      obtain ⟨g1, o1, he1, _, x1⟩ := hc1 j _ (intsN_get hgj)
      obtain ⟨a2, k2, hv2, _, _, _, hc2⟩ := hr2
      obtain ⟨g2, o2, he2, _, x2⟩ := hc2 j _ (intsN_get hsj)
      injection hv1 with ea1 _ _
      injection hv2 with ea2 _ _
      subst ea1
      subst ea2
      subst he1
      subst he2
      rw [show ((j : Int)).toNat = j from rfl, hG, hS]
      have e3 : decide (n ≤ j) = false := decide_eq_false (by omega)
      clear H HB hk1 hc1 hc2 hgj hsj hG hS hn hgn
      by_cases h3 : (gj : Int) = g
      · have e4 : ((gj : Int) != g) = false := by rw [h3]; simp
        rw [if_pos ⟨by omega, by omega, h3⟩]
        have H3 := Lib.hid h3
        clear h3
        by_cases hs1 : sj = 1
        · subst hs1
          rw [if_pos (.inl rfl)]
          unfold ptr hdV
          go_enter Tryz.func156, Tryz.ntmps156
          go_upto_region 1 with fail
          clear hwa
          go_quiet (fail)
          go_upto_region 3 with fail
          go_quiet (fail)
          go_wp2_with fail
          go_ret
          exact ⟨rfl, HK.out.drewN _⟩
        · by_cases hs2 : sj = 2
          · subst hs2
            rw [if_pos (.inr rfl)]
            unfold ptr hdV
            go_enter Tryz.func156, Tryz.ntmps156
            go_upto_region 1 with fail
            clear hwa
            go_quiet (fail)
            go_upto_region 3 with fail
            go_quiet (fail)
            go_wp2_with fail
            go_ret
            exact ⟨rfl, HK.out.drewN _⟩
          · rw [if_neg (by omega)]
            have e5 : ((sj : Int) == 1) = false := by simp; omega
            have e6 : ((sj : Int) == 2) = false := by simp; omega
            unfold ptr hdV
            go_enter Tryz.func156, Tryz.ntmps156
            go_upto_region 1 with fail
            clear hwa
            go_quiet (fail)
            go_upto_region 3 with fail
            go_quiet (fail)
            go_wp2_with fail
            go_ret
            exact ⟨rfl, HK.out.drewN _⟩
      · have e4 : ((gj : Int) != g) = true := by simp [h3]
        rw [if_neg (fun h => h3 h.2.2)]
        have H3 := Lib.hid h3
        clear h3
        unfold ptr hdV
        go_enter Tryz.func156, Tryz.ntmps156
        go_upto_region 1 with fail
        clear hwa
        go_quiet (fail)
        go_wp2_with fail
        go_ret
        exact ⟨rfl, HK.out.drewN _⟩
    · have e2 : decide ((j : Int) ≥ (n : Int)) = true := decide_eq_true (by omega)
      rw [if_neg (by omega)]
      clear H HB hk1
      unfold ptr hdV
      go_enter Tryz.func156, Tryz.ntmps156
      go_upto_region 1 with fail
      clear hwa
      go_quiet (fail)
      go_wp2_with fail
      go_ret
      exact ⟨rfl, HK.out.drewN _⟩
end Go.Proofs.YtkiikblpgppmkaaGreatDoor
