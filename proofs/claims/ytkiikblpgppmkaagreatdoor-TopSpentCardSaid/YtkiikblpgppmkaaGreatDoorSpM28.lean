/-
  The walk of TopSpent; From the form's reading of an argument to the words of the walks: a slice that came in reads as a list of elements, each by its own cells.
-/
import Derived.Test.YtkiikblpgppmkaaGreatDoorSpM19
import Derived.Test.YtkiikblpgppmkaaGreatDoorSpM27
import Derived.Test.YtkiikblpgppmkaaGreatDoorRows
import Derived.Test.YtkiikblpgppmkaaGreatDoorSpM01
import Derived.ProofKit
import Derived.OpenShut
import Derived.ShutString
import Derived.ChangeOld
import Derived.Below
namespace Go.Proofs.YtkiikblpgppmkaaGreatDoor
open Go Go.RowKit
set_option linter.unusedVariables false
set_option linter.unusedSimpArgs false

theorem St.ofMid2 {w0 w : World} {A B : Asr} {P R : List Asr} (h : St w0 w (P ++ A :: B :: R)) : St w0 w (B :: (P ++ A :: R)) := by
  have h1 : St w0 w ((P ++ [A]) ++ B :: R) := by simpa using h
  have h2 := h1.ofMid
  simpa using h2
theorem St.toMid2 {w0 w : World} {A B : Asr} {P R : List Asr} (h : St w0 w (B :: (P ++ A :: R))) : St w0 w (P ++ A :: B :: R) := by
  have h1 : St w0 w (B :: ((P ++ [A]) ++ R)) := by simpa using h
  have h2 := h1.toMid
  simpa using h2
theorem and63m (i : Nat) : bits .and .i64 (i : Int) 63 = ((i % 64 : Nat) : Int) := by
  rw [and_mask (i : Int) 6 63 (by decide) rfl]
  omega
theorem sp_insert3 {w0 w : World} {R : List Asr} {b s t n : Nat} {p : WoB} {f : Nat → VV} (H : St w0 w (woL b (spIn s t n f) p ++ R)) (h : SpN s t n) (hn : n < s * t) :
    Calls Tryz.prog 15 #[ptr b, hdV (spH t n).i (spH t n).g, .int .i64 0, .agg #[.int .i64 3, .int .i64 0, .int .i64 0]] w (fun en w' => ∃ k a c : Int, en = .returned (.tuple #[.agg #[.int .i64 k, .int .i64 a, .int .i64 c], .bool false, .int .i64 0]) ∧ St w0 w' (woL b (spHad s t n f) p ++ R)) := by
  refine (sp_insert H h hn).mono ?_
  rintro e w' ⟨v, rfl, h1⟩
  exact ⟨v.k, v.a, v.b, rfl, h1⟩
def spR (t n cb db : Nat) (s : Nat) (oa : Option Addr) (oc : Nat) : List Asr := [slA 45 2 (.slice oa n oc) n (flatHd (spHs t n)), slA 60 3 (.slice (some ⟨db, 0, none⟩) 1 1) 1 (flatDesc [⟨3, 4, 0⟩]), blkA cb #[.int .i64 (s : Nat), .int .i64 (t : Nat), .slice (some ⟨db, 0, none⟩) 1 1, .slice none 0 0] 27]
def spL (b : Nat) (x : WoS) (p : WoB) (s t n cb db : Nat) (oa : Option Addr) (oc : Nat) : List Asr := woL b x p ++ spR t n cb db s oa oc
def LoopSp (w : World) (b s t cb db : Nat) (p : WoB) (N : Nat) (g : Nat) (v10 v11 : Value) (wr : World) : Prop :=
  ∃ (n : Nat) (f : Nat → VV) (oa : Option Addr) (oc : Nat), g + n = N ∧ v11 = .int .i64 (n : Nat) ∧ v10 = .slice oa n oc ∧ St w wr (spL b (spWo s t n f) p s t n cb db oa oc)
theorem spR_cfg {w0 w : World} {P : List Asr} {B : Asr} {s t n cb db : Nat} {oa : Option Addr} {oc : Nat} (h : St w0 w (P ++ B :: spR t n cb db s oa oc)) : w.cell? ⟨cb, 0, none⟩ = some (.int .i64 (s : Nat)) ∧ w.cell? ⟨cb, 1, none⟩ = some (.int .i64 (t : Nat)) := by
  have h1 : St w0 w ((P ++ [B, slA 45 2 (.slice oa n oc) n (flatHd (spHs t n)), slA 60 3 (.slice (some ⟨db, 0, none⟩) 1 1) 1 (flatDesc [⟨3, 4, 0⟩])]) ++ [blkA cb #[.int .i64 (s : Nat), .int .i64 (t : Nat), .slice (some ⟨db, 0, none⟩) 1 1, .slice none 0 0] 27]) := by
    simpa [spR] using h
  have hb := h1.first.blk 0 rfl
  exact ⟨by rw [hb.cell]; rfl, by rw [hb.cell]; rfl⟩
def LoopSp2 (w : World) (b s t cb db : Nat) (p : WoB) (n : Nat) (f : Nat → VV) (oa : Option Addr) (oc : Nat) (B : Asr) (g : Nat) (v21 : Value) (wr : World) : Prop :=
  ∃ j : Nat, g + j = n ∧ v21 = .int .i64 (j : Nat) ∧ St w wr (woL b (spWo s t n f) p ++ (B :: spR t n cb db s oa oc))
set_option maxRecDepth 100000 in
set_option maxHeartbeats 4000000 in
theorem topSpent_walk (x y how : Int) (w : World) (hT : Tab w) :
    Calls Tryz.prog 6 #[.int .i64 x, .int .i64 y, .int .u64 how] w (RetTrue w) := by
  obtain ⟨s, hs, hs1, hs2⟩ : ∃ s : Nat, (bits .and .i64 x 255).tmod 10 = (s : Int) - 1 ∧ 1 ≤ s ∧ s ≤ 10 := by
    have e : bits .and .i64 x 255 = x % 256 := by rw [and_mask x 8 255 (by decide) rfl]; rfl
    have h0 : 0 ≤ x % 256 := by omega
    rw [e, Int.tmod_eq_emod_of_nonneg h0]
    exact ⟨((x % 256) % 10 + 1).toNat, by omega, by omega, by omega⟩
  obtain ⟨t, ht, ht1, ht2⟩ : ∃ t : Nat, bits .and .i64 y 3 = (t : Int) - 1 ∧ 1 ≤ t ∧ t ≤ 4 := by
    rw [and_mask y 2 3 (by decide) rfl]
    exact ⟨(y % 4 + 1).toNat, by omega, by omega, by omega⟩
  have hs3 : (s : Int) - 1 + 1 = s := by omega
  have ht3 : (t : Int) - 1 + 1 = t := by omega
  have h1 := (St.start w).lit 60 3 1 #[.int .i64 3, .int .i64 4, .int .i64 0] (by decide) rfl
  have h2 := h1.box #[.int .i64 (s : Nat), .int .i64 (t : Nat), .slice (some ⟨w.heap.size, 0, none⟩) 1 1, .slice none 0 0] 27
  rw [World.size_alloc] at h2
  obtain ⟨f0, hf0⟩ : ∃ f0 : Nat → VV, f0 = fun _ => ⟨0, 0, 0⟩ := ⟨_, rfl⟩
  have hw := wo_new h2 s t hs1 (by omega) ht1 (by omega) [⟨3, 4, 0⟩] (fun d hd => by rw [List.mem_singleton.1 hd]; exact ⟨.inr (.inr rfl), .inr rfl, fun h => rfl, by decide⟩) (by decide) (.slice (some ⟨w.heap.size, 0, none⟩) 1 1) (ReadIn.own 0 rfl) f0 [] (.slice none 0 0) ReadIn.none
  rw [sp_newWo hs1 hs2 ht1 ht2] at hw
  have HW := Lib.hid hw
  have HT := Lib.hid hT
  clear h1 h2 hw hf0 hT
  unfold ptr at *
  go_enter Tryz.func6, Tryz.ntmps6
  go_wp2_with (go_at_call 32; refine HW.out.mono ?_; rintro e w1 ⟨b, rfl, h1⟩; obtain ⟨p, h2⟩ := h1.first.exTop; have H1 := Lib.hid h2; clear h1 h2 HW hs ht hs3 ht3)
  go_loopg [10, 11] (s * t) (fun g v10 v11 wr => LoopSp w b s t (w.heap.size + 1) w.heap.size p (s * t) g v10 v11 wr)
  case atStart =>
    refine ⟨0, f0, none, 0, by omega, rfl, rfl, ?_⟩
    have h := H1.out.add (Keep.refl _ _) (A := slA 45 2 (.slice none 0 0) 0 []) (Own.nil _ _ _ _)
    exact h.first.toMid
  case round =>
    obtain ⟨n, f, oa, oc, hg, rfl, rfl, hst⟩ := hrel
    clear H1
    have HG := Lib.hid hg
    have hN40 : s * t ≤ 10 * 4 := Nat.mul_le_mul hs2 ht2
    have hnn : n ≤ s * t := by omega
    have hn40 : n ≤ 40 := by omega
    have HS : SpN s t n := ⟨hs1, hs2, ht1, ht2, hnn⟩
    obtain ⟨hb, hhb⟩ : ∃ hb, wr.heap.size = hb := ⟨_, rfl⟩
    have hstb := (hst.box0 #[.int .i64 0, .int .i64 0] 45).toMid
    rw [hhb] at hstb
    obtain ⟨wa, hwa⟩ : ∃ wa, wr.alloc (.cells #[.int .i64 0, .int .i64 0] 45) = wa := ⟨_, rfl⟩
    rw [hwa] at hstb
    have HB := Lib.hid hstb
    obtain ⟨j, hj⟩ : ∃ j, n % 64 = j := ⟨_, rfl⟩
    have hj2 : j < 64 := by omega
    have h63 := and63m n
    rw [hj] at h63
    obtain ⟨bq, hbq⟩ : ∃ bq, (bits .and .u64 (how / 2 ^ j) 1 == 1) = bq := ⟨_, rfl⟩
    obtain ⟨j7, hj7⟩ : ∃ j, (n * 7) % 64 = j := ⟨_, rfl⟩
    have hj72 : j7 < 64 := by omega
    have h637 := and63m (n * 7)
    rw [hj7, show ((n * 7 : Nat) : Int) = (n : Int) * 7 by omega] at h637
    obtain ⟨bq7, hbq7⟩ : ∃ bq, (bits .and .u64 (how / 2 ^ j7) 1 == 1) = bq := ⟨_, rfl⟩
    have H637 := Lib.hid (And.intro h637 hbq7)
    clear h637 hbq7 hst hstb hg
    have c0 : wa.cell? ⟨b, 0, none⟩ = some (.pointer (some ⟨p.eb, 0, none⟩)) := by rw [(HB.out.blk 0 rfl).cell]; rfl
    have c1 : wa.cell? ⟨p.eb, 0, none⟩ = some (.pointer (some ⟨p.e.ab, 0, none⟩)) := by rw [(HB.out.blk 1 rfl).cell]; rfl
    by_cases hlt : n < s * t
    · have HCr := Lib.hid (sp_create HB.out HT.out HS hlt)
      have HRa := Lib.hid (sp_raise HB.out HT.out HS hlt)
      have HMt := Lib.hid (fun (w' : World) (R : List Asr) (h : St w w' (woL b (spRo s t n f) p ++ R)) => sp_maint1 h HT.out HS hlt)
      have HIn := Lib.hid (fun (w' : World) (R : List Asr) (h : St w w' (woL b (spIn s t n f) p ++ R)) => sp_insert3 h HS hlt)
      have HDe := Lib.hid (fun (w' : World) (R : List Asr) (h : St w w' (woL b (spHad s t n f) p ++ R)) => sp_delete h HS hlt)
      have HDf := Lib.hid (fun (w' : World) (R : List Asr) (h : St w w' (woL b (spHad s t n f) p ++ R)) => sp_defer h HS hlt)
      have HM2 := Lib.hid (fun (w' : World) (R : List Asr) (h : St w w' (woL b (spQ s t n f) p ++ R)) => sp_maint2 h HT.out HS hlt)
      have HFl := Lib.hid (spHs_flat t n)
      have HOp := Lib.hid (show (spOp t n).cells = [.int .i64 1, .int .i64 (spH t n).i, .int .i64 (spH t n).g, .int .i64 0, .int .i64 0, .int .i64 0, .int .i64 0] from rfl)
      obtain ⟨⟨hi, hgn⟩, hh⟩ : ∃ h, spH t n = h := ⟨_, rfl⟩
      simp only [hh] at HCr HRa HIn HDe HFl HOp
      clear hh
      have HLT := Lib.hid hlt
      unfold ptr at HCr HRa HMt HIn HDe HDf HM2
      unfold hdV at HCr HRa HIn HDe
      go_upto_if 54 with fail
      clear h63 hbq
      go_cut [13] (fun v13 wc => v13 = .int .i64 0 ∧ St w wc (woL b (spIn s t n f) p ++ (blkA hb #[.int .i64 hi, .int .i64 hgn] 45 :: spR t n (w.heap.size + 1) w.heap.size s oa oc)))
      case first =>
        cases bq
        · go_wp2_with (first
            | (go_at_call 33; refine HRa.out.mono ?_; rintro e w2 ⟨rfl, h2⟩; have H2 := Lib.hid h2; obtain ⟨x0, x1, y0, y1⟩ := (h2.ofMid.blk 0 rfl).two; clear h2 HRa HB)
            | (go_at_call 20; refine (HMt.out _ _ (((H2.out.ofMid.write 0 rfl 0 (.int .i64 hi)).write 0 rfl 1 (.int .i64 hgn)).toMid)).mono ?_; rintro e w3 ⟨r3, a3, s3, rfl, h3⟩; have H3 := Lib.hid h3; clear h3 HMt H2))
          go_meet
          case rel => exact ⟨rfl, H3.out⟩
        · go_wp2_with (go_at_call 14; refine HCr.out.mono ?_; rintro e w2 ⟨rfl, h2⟩; have H2 := Lib.hid h2; obtain ⟨x0, x1, y0, y1⟩ := (h2.ofMid.blk 0 rfl).two; clear h2 HCr HB)
          go_meet
          case rel => exact ⟨rfl, (((H2.out.ofMid.write 0 rfl 0 (.int .i64 hi)).write 0 rfl 1 (.int .i64 hgn)).toMid)⟩
      case rest =>
        obtain ⟨rfl, h4⟩ := hcut
        obtain ⟨x0, x1, _, _⟩ := (h4.ofMid.blk 0 rfl).two
        obtain ⟨G, hown, _, hup, _⟩ := h4.ofMid2.opens 0 rfl
        have HOwn := Lib.hid (show Own G wc 45 2 (.slice oa n oc) n (flatHd (spHs t n)) from hown)
        have HUP := Lib.hid hup
        obtain ⟨h637, hbq7⟩ := H637.out
        clear hown hup h4 H637 HCr HRa HMt c0 c1 HB hj hj2 hhb hwa
        go_upto_if 97 with (first
          | (at_builtin; go_loud (refine wpList_app (P := Tryz.prog) slHd rfl _ _ rfl (S := G) (S2 := fun z => z = wc.heap.size) (n := n) (xs := flatHd (spHs t n)) (m := 1) (news := [.int .i64 hi, .int .i64 hgn]) rfl rfl ?_ (Own.lit (S := fun z => z = wc.heap.size) wc 45 2 1 #[.int .i64 hi, .int .i64 hgn] (by decide) rfl rfl).rd rfl (by intro u hu; simp at hu; rcases hu with rfl | rfl <;> rfl) (by omega) (by unfold maxLen; omega) ?_; (· exact HOwn.out.keep (T := Nope) ((Keep.refl wc Nope).alloc _) (fun _ _ f => f)); rintro a' k' c' w5 happ; obtain ⟨z1, z2⟩ := app_up (wr := wc) ((Keep.refl wc Nope).alloc _) happ; obtain rfl := happ.num; have h5 := HUP.out w5 _ z1 z2; have h5' := St.toMid2 (P := woL b (spIn s t n f) p) h5; rw [← HFl.out] at h5'; have H5 := Lib.hid (show St w w5 (woL b (spIn s t n f) p ++ (blkA hb #[.int .i64 hi, .int .i64 hgn] 45 :: spR t (n + 1) (w.heap.size + 1) w.heap.size s a' c')) from h5'); obtain ⟨x0, x1, _, _⟩ := (H5.out.ofMid.blk 0 rfl).two; clear happ z1 z2 h5 h5' HOwn HUP))
          | (go_at_call 15; refine (HIn.out _ _ H5.out).mono ?_; rintro e w6 ⟨vk, va, vb, rfl, h6⟩; have H6 := Lib.hid h6; clear h6 HIn H5))
        obtain ⟨w7, hw7⟩ : ∃ w7, w6.alloc (.cells #[.int .i64 vk, .int .i64 va, .int .i64 vb] 34) = w7 := ⟨_, rfl⟩
        have h7 := H6.out.alloc (.cells #[.int .i64 vk, .int .i64 va, .int .i64 vb] 34)
        rw [hw7] at h7
        rw [hw7]
        have H7 := Lib.hid h7
        obtain ⟨x0, x1, _, _⟩ := (h7.ofMid.blk 0 rfl).two
        clear hw7 h7 h637 hbq7 H6
        cases bq7
        · go_wp2_with (first
            | (go_at_call 19; refine (HDf.out _ _ (H7.out.alloc _) (fun z => z = w7.heap.size) _ (by rw [HOp.out]; exact (Own.lit (S := fun z => z = w7.heap.size) w7 79 7 1 #[.int .i64 1, .int .i64 hi, .int .i64 hgn, .int .i64 0, .int .i64 0, .int .i64 0, .int .i64 0] (by decide) rfl rfl).rd)).mono ?_; rintro e w8 ⟨rfl, h8⟩; have H8 := Lib.hid h8; clear h8 HDf)
            | (go_at_call 20; refine (HM2.out _ _ H8.out).mono ?_; rintro e w9 ⟨r9, a9, s9, rfl, h9⟩; have H9 := Lib.hid h9; clear h9 HM2 H8))
          go_roundg (s * t - (n + 1))
          case measure => have := HG.out; have := HLT.out; omega
          case rel => exact ⟨n + 1, _, a', c', by have := HLT.out; omega, by go_num, rfl, H9.out.ofMid.rest⟩
        · go_wp2_with (go_at_call 18; refine (HDe.out _ _ H7.out).mono ?_; rintro e w8 ⟨m8, rfl, h8⟩; have H8 := Lib.hid h8; clear h8 HDe)
          go_roundg (s * t - (n + 1))
          case measure => have := HG.out; have := HLT.out; omega
          case rel => exact ⟨n + 1, _, a', c', by have := HLT.out; omega, by go_num, rfl, H8.out.ofMid.rest⟩
    · have hN : n = s * t := by omega
      have HCr := Lib.hid (sp_create_no HB.out HT.out HS hN)
      have HRa := Lib.hid (sp_raise_no HB.out HT.out HS hN)
      have HMt := Lib.hid (fun (w' : World) (R : List Asr) (h : St w w' (woL b (spWo s t n f) p ++ R)) => sp_maint3 h HT.out HS)
      have HC2 := Lib.hid (fun (w' : World) (R : List Asr) (h : St w w' (woL b (spWo s t n f) p ++ R)) => sp_create_no h HT.out HS hN)
      have HR2 := Lib.hid (fun (w' : World) (R : List Asr) (h : St w w' (woL b (spWo s t n f) p ++ R)) => sp_raise_no h HT.out HS hN)
      have HGt := Lib.hid (fun (w' : World) (R : List Asr) (h : St w w' (woL b (spWo s t n f) p ++ R)) => sp_get h HS)
      have HMUL := Lib.hid (show (s : Int) * (t : Int) = (n : Int) by rw [hN]; exact (Int.natCast_mul s t).symm)
      unfold ptr at HCr HRa HMt HC2 HR2 HGt
      unfold hdV at HCr HRa HC2 HR2 HGt
      clear hN hlt hN40 hnn HG
      go_upto_if 54 with fail
      clear h63 hbq
      go_cut [13] (fun v13 wc => v13 = .int .i64 7 ∧ St w wc (woL b (spWo s t n f) p ++ (blkA hb #[.int .i64 0, .int .i64 0] 45 :: spR t n (w.heap.size + 1) w.heap.size s oa oc)))
      case first =>
        cases bq
        · go_wp2_with (first
            | (go_at_call 33; refine HRa.out.mono ?_; rintro e w2 ⟨rfl, hk2⟩; have h2 := HB.out.keep hk2; have H2 := Lib.hid h2; obtain ⟨x0, x1, y0, y1⟩ := (h2.ofMid.blk 0 rfl).two; clear h2 HRa HB hk2)
            | (go_at_call 20; refine (HMt.out _ _ (((H2.out.ofMid.write 0 rfl 0 (.int .i64 0)).write 0 rfl 1 (.int .i64 0)).toMid)).mono ?_; rintro e w3 ⟨r3, a3, s3, rfl, h3⟩; have H3 := Lib.hid h3; clear h3 HMt H2))
          go_meet
          case rel => exact ⟨rfl, H3.out⟩
        · go_wp2_with (go_at_call 14; refine HCr.out.mono ?_; rintro e w2 ⟨rfl, hk2⟩; have h2 := HB.out.keep hk2; have H2 := Lib.hid h2; obtain ⟨x0, x1, y0, y1⟩ := (h2.ofMid.blk 0 rfl).two; clear h2 HCr HB hk2)
          go_meet
          case rel => exact ⟨rfl, (((H2.out.ofMid.write 0 rfl 0 (.int .i64 0)).write 0 rfl 1 (.int .i64 0)).toMid)⟩
      case rest =>
        obtain ⟨rfl, h4⟩ := hcut
        have H4 := Lib.hid h4
        clear h4 HCr HRa HMt c0 c1 HB hj hj2 hhb hwa hj7 hj72 H637
        go_upto_region 25 with (go_at_call 14; refine (HC2.out _ _ H4.out).mono ?_; rintro e w5 ⟨rfl, hk5⟩; have H5 := Lib.hid (H4.out.keep hk5); clear hk5 HC2 H4)
        obtain ⟨w6, hw6⟩ : ∃ w6, w5.alloc (.cells #[.int .i64 0, .int .i64 0] 45) = w6 := ⟨_, rfl⟩
        have h6 := H5.out.alloc (.cells #[.int .i64 0, .int .i64 0] 45)
        rw [hw6] at h6 ⊢
        have H6 := Lib.hid h6
        have c0 : w6.cell? ⟨b, 0, none⟩ = some (.pointer (some ⟨p.eb, 0, none⟩)) := by rw [(h6.blk 0 rfl).cell]; rfl
        have c1 : w6.cell? ⟨p.eb, 0, none⟩ = some (.pointer (some ⟨p.e.ab, 0, none⟩)) := by rw [(h6.blk 1 rfl).cell]; rfl
        clear hw6 h6 H5
        go_upto_region 26 with (go_at_call 33; refine (HR2.out _ _ H6.out).mono ?_; rintro e w7 ⟨rfl, hk7⟩; have H7 := Lib.hid (H6.out.keep hk7); clear hk7 HR2 H6)
        obtain ⟨w8, hw8⟩ : ∃ w8, w7.alloc (.cells #[.int .i64 0, .int .i64 0] 45) = w8 := ⟨_, rfl⟩
        have h8 := H7.out.alloc (.cells #[.int .i64 0, .int .i64 0] 45)
        rw [hw8] at h8 ⊢
        have H8 := Lib.hid h8
        obtain ⟨d0, d1⟩ := spR_cfg h8
        have hmul := HMUL.out
        clear hw8 h8 H7 c0 c1
        go_upto_region 28 with fail
        clear hmul HMUL d0 d1
        go_wp2_with fail
        go_loopg [21] n (fun g v21 wr => LoopSp2 w b s t (w.heap.size + 1) w.heap.size p n f oa oc (blkA hb #[.int .i64 0, .int .i64 0] 45) g v21 wr)
        case atStart => exact ⟨0, rfl, rfl, H8.out⟩
        case round =>
          obtain ⟨j2, hg, rfl, hst⟩ := hrel
          have HG := Lib.hid hg
          have HST := Lib.hid hst
          clear hst H8
          by_cases hlt : j2 < n
          · have hjl : (spHs t n)[j2]? = some ((spHs t n)[j2]'(by rw [spHs_len]; exact hlt)) := List.getElem?_eq_getElem _
            obtain ⟨⟨hi, hgn⟩, hh⟩ : ∃ h, (spHs t n)[j2]'(by rw [spHs_len]; exact hlt) = h := ⟨_, rfl⟩
            rw [hh] at hjl
            obtain ⟨S2, _, hrd, _⟩ := HST.out.ofMid2.rd 0 (e := 45) (size := 2) (n := n) (v := .slice oa n oc) (xs := flatHd (spHs t n)) rfl
            obtain ⟨bo, oo, rfl, _, hco⟩ := Rd.elem (cells := HdV.cells) (size := 2) (l := spHs t n) hrd (fun _ => rfl) (by decide) hjl
            have x0 := hco 0 (by decide)
            have x1 := hco 1 (by decide)
            simp [HdV.cells] at x0 x1
            have HG2 := Lib.hid (HGt.out _ _ HST.out hi hgn)
            have e0 : decide (n ≤ j2) = false := decide_eq_false (by omega)
            have e1 : decide ((j2 : Int) < (n : Int)) = true := decide_eq_true (by omega)
            clear hrd hco hjl hh HGt
            unfold zV at HG2
            go_wp2_with (go_at_call 31; refine HG2.out.mono ?_; rintro e w9 ⟨rfl, hk9⟩; have H9 := Lib.hid (HST.out.keep hk9); clear hk9 HG2 HST)
            go_roundg (n - (j2 + 1))
            case measure => have := HG.out; omega
            case rel => exact ⟨j2 + 1, by have := HG.out; omega, by go_num, H9.out.alloc _⟩
          · have hjn : j2 = n := by omega
            subst hjn
            have e1 : decide ((j2 : Int) < (j2 : Int)) = false := decide_eq_false (by omega)
            clear HGt
            go_wp2_with (go_at_call 9; refine (top_awake (HT.out.st HST.out)).mono ?_; rintro e w9 ⟨rfl, hk9⟩; have H9 := Lib.hid (HST.out.keep hk9); clear hk9 HST)
            go_ret
            exact ⟨rfl, H9.out.bel⟩
end Go.Proofs.YtkiikblpgppmkaaGreatDoor

namespace Go.Proofs.YtkiikblpgppmkaaGreatDoor
open Go Go.RowKit
set_option linter.unusedVariables false
set_option linter.unusedSimpArgs false

theorem mapM_some {α β : Type} {f : α → Option β} : ∀ {l : List α} {ys : List β}, l.mapM f = some ys → ys.length = l.length ∧ ∀ (i : Nat) (x : α), l[i]? = some x → ∃ y, f x = some y ∧ ys[i]? = some y
  | [], ys, h => by
    simp at h
    subst h
    exact ⟨rfl, fun i x hx => by simp at hx⟩
  | a :: l, ys, h => by
    simp only [List.mapM_cons, Option.bind_eq_bind, Option.bind_eq_some_iff] at h
    obtain ⟨y, hy, zs, hz, he⟩ := h
    simp at he
    subst he
    obtain ⟨h1, h2⟩ := mapM_some hz
    refine ⟨by simp [h1], fun i x hx => ?_⟩
    cases i with
    | zero => simp at hx; subst hx; exact ⟨y, hy, by simp⟩
    | succ i => simp at hx; obtain ⟨y', h3, h4⟩ := h2 i x hx; exact ⟨y', h3, by simpa using h4⟩

/-- A list out of a choice at each place. -/
theorem list_of {α : Type} (P : Nat → α → Prop) : ∀ (n : Nat), (∀ i, i < n → ∃ x, P i x) → ∃ l : List α, l.length = n ∧ ∀ i x, l[i]? = some x → P i x
  | 0, _ => ⟨[], rfl, fun i x hx => by simp at hx⟩
  | n + 1, h => by
    obtain ⟨l, h1, h2⟩ := list_of P n (fun i hi => h i (by omega))
    obtain ⟨x, hx⟩ := h n (by omega)
    refine ⟨l ++ [x], by simp [h1], fun i y hy => ?_⟩
    rw [List.getElem?_append] at hy
    split at hy
    · exact h2 i y hy
    · rename_i hi
      have : i - l.length = 0 := by
        rcases Nat.eq_zero_or_pos (i - l.length) with h | h
        · exact h
        · rw [List.getElem?_eq_none (by simp; omega)] at hy; cases hy
      rw [this] at hy
      simp at hy
      subst hy
      obtain rfl : i = n := by omega
      exact hx

theorem lt_of_getElem? {α : Type} {l : List α} {k : Nat} {x : α} (h : l[k]? = some x) : k < l.length := (List.getElem?_eq_some_iff.1 h).1

section
variable {H : Type} {enc : TypeId × Value → H} {P : Program} {w : World} {base : Nat} {sp : Nat → Bool} {held : Bool}

theorem cells_some {a : Addr} {n : Nat} {row : List Value} (h : w.cells? base a n = some row) : row.length = n ∧ ∀ j, j < n → w.cell? (a.add j) = row[j]? := by
  unfold World.cells? at h
  split at h
  · obtain ⟨h1, h2⟩ := mapM_some h
    refine ⟨by simpa using h1, fun j hj => ?_⟩
    obtain ⟨y, h3, h4⟩ := h2 j j (by rw [List.getElem?_range hj])
    rw [h3, h4]
  · cases h

/-- It reads as a value of the type, at some depth. -/
def Reads (enc : TypeId × Value → H) (P : Program) (w : World) (base : Nat) (sp : Nat → Bool) (held : Bool) (t : TypeId) (cs : List Value) : Prop :=
  ∃ fuel x, DataW.trod enc P w base sp held fuel t cs = some x

theorem reads_int {t : TypeId} {k : IntKind} {cs : List Value} (ht : P.underlying t = some (.int k)) (h : Reads enc P w base sp held t cs) : ∃ n, cs = [.int k n] ∧ (Lit.int k n).wf = true := by
  obtain ⟨fuel, x, h⟩ := h
  obtain ⟨n, h1, _, h2⟩ := DataW.trod_int ht h
  exact ⟨n, h1, h2⟩
theorem reads_bool {t : TypeId} {cs : List Value} (ht : P.underlying t = some .bool) (h : Reads enc P w base sp held t cs) : ∃ b, cs = [.bool b] := by
  obtain ⟨fuel, x, h⟩ := h
  obtain ⟨n, h1, _⟩ := DataW.trod_bool ht h
  exact ⟨n, h1⟩

/-- A slice that came in: a list of elements, by their cells; 'T x' is what is known of each element. -/
theorem reads_slice {t e : TypeId} {v : Value} {α : Type} (cells : α → List Value) (size : Nat) (T : α → Prop) (ht : P.underlying t = some (.slice e)) (hsz : P.cellsOf e = size) (hlen : ∀ x, (cells x).length = size)
    (hdec : ∀ row, Reads enc P w base sp held e row → ∃ x, row = cells x ∧ T x) (h : Reads enc P w base sp held t [v]) :
    ∃ (a : Option Addr) (c : Nat) (l : List α), v = .slice a l.length c ∧ Rd (fun i => i < w.heap.size) w v l.length (l.flatMap cells) ∧ ∀ x ∈ l, T x := by
  obtain ⟨fuel, x, h⟩ := h
  rcases DataW.trod_slice ht h with ⟨hv, _⟩ | ⟨ad, len, cap, elems, rest, n, _, hv, _, _, h1, h2, h3, h4, _⟩
  · injection hv with hv
    subst hv
    exact ⟨none, 0, [], rfl, ⟨none, 0, rfl, Nat.le_refl _, Nat.zero_le _, fun _ => ⟨rfl, rfl⟩, fun j u hu => by simp at hu⟩, by simp⟩
  · injection hv with hv
    subst hv
    obtain ⟨l, hl1, hl2⟩ := list_of (fun i x => w.cells? base (ad.add (i * P.cellsOf e)) (P.cellsOf e) = some (cells x) ∧ T x) len (by
      intro i hi
      have h5 := h4 i hi
      rw [List.getElem?_eq_getElem (by omega), Option.bind_eq_some_iff] at h5
      obtain ⟨row, h6, h7⟩ := h5
      obtain ⟨y, rfl, hy⟩ := hdec row ⟨_, _, h7⟩
      exact ⟨y, h6, hy⟩)
    subst hl1
    refine ⟨some ad, cap, l, rfl, ⟨some ad, cap, rfl, h1, h2, (fun hx => (by cases hx)), fun j u hu => ?_⟩, fun y hy => ?_⟩
    · have hj : j < l.length * size := by
        have := lt_of_getElem? hu
        rwa [flat_length cells size hlen] at this
      have hpos : 0 < size := by
        rcases Nat.eq_zero_or_pos size with h | h
        · rw [h] at hj; omega
        · exact h
      have hk : j / size < l.length := Nat.div_lt_of_lt_mul (by rw [Nat.mul_comm]; exact hj)
      have hm : j % size < size := Nat.mod_lt _ hpos
      have hjj : j / size * size + j % size = j := by rw [Nat.mul_comm]; exact Nat.div_add_mod j size
      obtain ⟨hc, _⟩ := hl2 (j / size) _ (List.getElem?_eq_getElem hk)
      have h8 := (cells_some hc).2 (j % size) (by rw [hsz]; exact hm)
      have h9 := flat_get cells size hlen l (j / size) (j % size) _ (List.getElem?_eq_getElem hk) hm
      rw [hjj, hu] at h9
      rw [← h9, hsz] at h8
      have h0 := (cells_some (hl2 0 _ (List.getElem?_eq_getElem (Nat.lt_of_le_of_lt (Nat.zero_le _) hk))).1).2 0 (by rw [hsz]; exact hpos)
      rw [Nat.zero_mul] at h0
      have h0' : ∃ u0, w.cell? ad = some u0 := by
        have e : ((ad.add 0).add 0) = ad := by simp [Addr.add]
        rw [e] at h0
        exact ⟨_, h0.trans (List.getElem?_eq_getElem (by rw [hlen]; exact hpos))⟩
      obtain ⟨u0, hu0⟩ := h0'
      obtain ⟨b, o, spot⟩ := ad
      have hspot : spot = none := by
        cases spot with
        | none => rfl
        | some q => 
          unfold World.cell? at hu0
          split at hu0 <;> simp at hu0
      subst hspot
      refine ⟨b, o, rfl, World.block_lt_of_cell? w _ hu0, ?_⟩
      rw [← h8]
      congr 1
      unfold Addr.add
      by_cases e1 : j / size * size = 0
      · rw [if_pos e1]
        by_cases e2 : j % size = 0
        · rw [if_pos e2]; simp only [Addr.mk.injEq, true_and, and_true]; omega
        · rw [if_neg e2]; simp only [Addr.mk.injEq, true_and, and_true]; omega
      · rw [if_neg e1]
        by_cases e2 : j % size = 0
        · rw [if_pos e2]; simp only [Addr.mk.injEq, true_and, and_true]; omega
        · rw [if_neg e2]; simp only [Addr.mk.injEq, true_and, and_true]; omega
    · obtain ⟨i, hi, rfl⟩ := List.getElem_of_mem hy
      exact (hl2 i _ (List.getElem?_eq_getElem hi)).2
theorem reads_of_trod {t : TypeId} {v : Value} {d : DataW H} {ps : List MemPlace} (h : DataW.Trod enc P w base sp held t v d ps) : Reads enc P w base sp held t v.cells.toList := by
  obtain ⟨fuel, h⟩ := h
  exact ⟨fuel, _, h⟩
/-- The fields of a struct that came in. -/
theorem reads_struct {t : TypeId} {fs : Array Field} {cs : List Value} (ht : P.underlying t = some (.struct fs)) (h : Reads enc P w base sp held t cs) :
    cs.length = P.cellsOf t ∧ ∀ (i : Nat) (f : Field), fs[i]? = some f → Reads enc P w base sp held f.type ((cs.drop f.offset).take (P.cellsOf f.type)) := by
  obtain ⟨fuel, x, h⟩ := h
  obtain ⟨xs, n, _, _, h1, h2, h3⟩ := DataW.trod_struct ht h
  refine ⟨h1, fun i f hf => ?_⟩
  have h4 := h3 i f hf
  rw [List.getElem?_eq_getElem (by rw [h2]; exact (Array.getElem?_eq_some_iff.1 hf).1)] at h4
  exact ⟨_, _, h4⟩
end

theorem flat_ints (k : IntKind) : ∀ (l : List Int), l.flatMap (fun n => [Value.int k n]) = l.map (Value.int k)
  | [] => rfl
  | a :: l => by rw [List.flatMap_cons, List.map_cons, flat_ints k l]; rfl
/-- A list of numbers, one cell each. -/
theorem reads_ints {H : Type} {enc : TypeId × Value → H} {P : Program} {w : World} {base : Nat} {sp : Nat → Bool} {held : Bool} {t e : TypeId} {k : IntKind} {v : Value} (ht : P.underlying t = some (.slice e)) (he : P.underlying e = some (.int k)) (hsz : P.cellsOf e = 1)
    (h : Reads enc P w base sp held t [v]) :
    ∃ (a : Option Addr) (c : Nat) (l : List Int), v = .slice a l.length c ∧ Rd (fun i => i < w.heap.size) w v l.length (l.map (Value.int k)) ∧ ∀ x ∈ l, (Lit.int k x).wf = true := by
  obtain ⟨a, c, l, h1, h2, h3⟩ := reads_slice (fun n => [Value.int k n]) 1 (fun n => (Lit.int k n).wf = true) ht hsz (fun _ => rfl) (fun row hr => by
    obtain ⟨n, h1, h2⟩ := reads_int he hr
    exact ⟨n, h1, h2⟩) h
  refine ⟨a, c, l, h1, ?_, h3⟩
  rw [← flat_ints k l]
  exact h2
end Go.Proofs.YtkiikblpgppmkaaGreatDoor
