/-
  The walk of TopReaders; From the form's reading of an argument to the words of the walks: a slice that came in reads as a list of elements, each by its own cells.
-/
import Derived.Test.YtkiikblpgppmkaaGreatDoorTrM24
import Derived.Test.YtkiikblpgppmkaaGreatDoorTrM25
import Derived.Test.YtkiikblpgppmkaaGreatDoorTrM23
import Derived.Deep.CutBlock
import Derived.Test.YtkiikblpgppmkaaGreatDoorTrM33
import Derived.Test.YtkiikblpgppmkaaGreatDoorRows
import Derived.Test.YtkiikblpgppmkaaGreatDoorTrM02
import Derived.ProofKit
import Derived.OpenShut
import Derived.ShutString
import Derived.ChangeOld
import Derived.Below
namespace Go.Proofs.YtkiikblpgppmkaaGreatDoor
open Go Go.RowKit
set_option linter.unusedVariables false
set_option linter.unusedSimpArgs false

def trR (cb db : Nat) (hs : List HdV) (ha : Option Addr) (nh hc : Nat) (log : List EvV) (ta : Option Addr) (nt tc : Nat) : List Asr := [slA 45 2 (.slice ha nh hc) nh (flatHd hs), slA 86 2 (.slice ta nt tc) nt (flatEv log), slA 60 3 (.slice (some ⟨db, 0, none⟩) 1 1) 1 (flatDesc [⟨1, 1, 1000⟩]), blkA cb #[.int .i64 20, .int .i64 9, .slice (some ⟨db, 0, none⟩) 1 1, .slice none 0 0] 27]
def LoopTr (w : World) (b cb db : Nat) (p : WoB) (N : Nat) (g : Nat) (v10 v11 v12 : Value) (wr : World) : Prop :=
  ∃ (i nh nt : Nat) (T : TrS) (hs : List HdV) (ha : Option Addr) (hc : Nat) (ta : Option Addr) (tc : Nat), g + i = N ∧ v12 = .int .i64 (i : Nat) ∧ v10 = .slice ha nh hc ∧ v11 = .slice ta nt tc ∧ hs.length = nh ∧ nh ≤ i ∧ T.log.length = nt ∧ TrI T (2 * i) ∧ T.pos = [nt, 0] ∧ St w wr (woL b (trX T []) p ++ trR cb db hs ha nh hc T.log ta nt tc)
def LoopTh (w : World) (L : List Asr) (log : List EvV) (N : Nat) (g : Nat) (v24 v25 : Value) (wr : World) : Prop :=
  ∃ (j nth : Nat) (th : List Int) (a : Option Addr) (c : Nat) (S : Nat → Prop), g + j = N ∧ v25 = .int .i64 (j : Nat) ∧ v24 = .slice a nth c ∧ th.length = nth ∧ nth ≤ j ∧ Th th (maskE (log.take j)) ∧ Rd S wr (.slice a nth c) nth (ints th) ∧ St w wr L
theorem tr_readerZ {w0 w : World} {R : List Asr} {b : Nat} {p : WoB} {T : TrS} (z : Int) (hz : ((T.pos.length : Nat) : Int) = z) (H : St w0 w (woL b (trX T []) p ++ R)) (hp : T.pos.length < 100) :
    Calls Tryz.prog 13 #[.pointer (some ⟨b, 0, none⟩), .int .i64 0] w (fun e w' => e = .returned (.tuple #[.int .i64 z, .int .i64 0]) ∧ St w0 w' (woL b (trX { T with pos := T.pos ++ [T.log.length] } []) p ++ R)) := by
  subst hz
  exact tr_reader H hp
def CutH (w : World) (b hb cb db : Nat) (p : WoB) (T : TrS) (hs : List HdV) (ha : Option Addr) (nh hc : Nat) (ta : Option Addr) (nt tc : Nat) (wc : World) : Prop := ∃ hi hgn : Int, St w wc (woL b (trX T []) p ++ (blkA hb #[.int .i64 hi, .int .i64 hgn] 45 :: trR cb db hs ha nh hc T.log ta nt tc))
def CutB (w : World) (b cb db : Nat) (p : WoB) (T : TrS) (i : Nat) (ta : Option Addr) (nt tc : Nat) (v10 : Value) (wc : World) : Prop := ∃ (T' : TrS) (hs : List HdV) (ha : Option Addr) (nh hc : Nat), v10 = .slice ha nh hc ∧ hs.length = nh ∧ nh ≤ i + 1 ∧ TrI T' (2 * i + 2) ∧ TrTo T T' ∧ St w wc (woL b (trX T' []) p ++ trR cb db hs ha nh hc T.log ta nt tc)
theorem tr_maintD {w0 w : World} {R : List Asr} {b i : Nat} {p : WoB} {T : TrS} (x g : Int) (v : VV) (H : (T.al.st x g = 1 ∧ St w0 w (woL b (trX T (trOps x g v)) p ++ R)) ∨ St w0 w (woL b (trX T []) p ++ R)) (hT : Tab w0) (hI : TrI T i) (hi : i ≤ 5000) (hv : okV v.k v.a v.b = true) (hk1 : v.k = 1) :
    Calls Tryz.prog 20 #[ptr b] w (RetTr w0 b p R T (i + 2)) := by
  rcases H with ⟨hs, H⟩ | H
  · exact tr_maint2 x g v H hT hI hi hs hv hk1
  · refine (tr_maint0 H hT hI).mono ?_
    rintro e w' ⟨u, T', rfl, h1, h2, h3⟩
    exact ⟨u, T', rfl, h1.up (Nat.le_succ _), h2, h3⟩
theorem flatHd_snoc (l : List HdV) (x g : Int) : flatHd l ++ [.int .i64 x, .int .i64 g] = flatHd (l ++ [⟨x, g⟩]) := by
  rw [flatHd_app]
  rfl
theorem TrTo.told {T T' : TrS} (h : TrTo T T') : flatEv T.log ++ flatEv (T'.log.drop T.log.length) = flatEv T'.log := by
  rw [← flatEv_app]
  obtain ⟨t, ht⟩ := h.log
  rw [← ht, List.drop_left']
  rfl
theorem TrTo.len {T T' : TrS} (h : TrTo T T') : T.log.length ≤ T'.log.length := h.log.length_le
theorem and24 (x : Int) : ∃ n : Nat, bits .and .i64 x 16777215 = (n : Int) ∧ n < 16777216 := by
  rw [and_mask x 24 16777215 (by decide) rfl]
  exact ⟨(x % 16777216).toNat, by omega, by omega⟩
theorem and7 (n : Nat) : bits .and .i64 (n : Int) 7 = ((n % 8 : Nat) : Int) := by
  rw [and_mask (n : Int) 3 7 (by decide) rfl]
  omega
set_option maxRecDepth 100000 in
set_option maxHeartbeats 4000000 in
theorem topReaders_walk (v : Value) (l : List Int) (w : World) (S : Nat → Prop) (hv : Rd S w v l.length (ints l)) (hT : Tab w) :
    Calls Tryz.prog 4 #[v] w (RetTrue w) := by
  obtain ⟨va, vc, rfl, _, hmax, _, _⟩ := id hv
  have hll : l.length ≤ 9223372036854775807 := by unfold maxLen at *; omega
  have h1 := (St.start w).lit 60 3 1 #[.int .i64 1, .int .i64 1, .int .i64 1000] (by decide) rfl
  have h2 := h1.box #[.int .i64 20, .int .i64 9, .slice (some ⟨w.heap.size, 0, none⟩) 1 1, .slice none 0 0] 27
  rw [World.size_alloc] at h2
  obtain ⟨f0, hf0⟩ : ∃ f0 : Nat → VV, f0 = fun _ => ⟨0, 0, 0⟩ := ⟨_, rfl⟩
  have HW := Lib.hid (show Calls Tryz.prog 12 #[.agg #[.int .i64 20, .int .i64 9, .slice (some ⟨w.heap.size, 0, none⟩) 1 1, .slice none 0 0], .slice none 0 0] _ _ from wof_nil h2 20 9 (by decide) (by decide) (by decide) (by decide) [⟨1, 1, 1000⟩] (fun d hd => by rw [List.mem_singleton.1 hd]; exact ⟨.inl rfl, VarOk.v1, fun h => absurd h (by decide), by decide⟩) (by decide) (.slice (some ⟨w.heap.size, 0, none⟩) 1 1) (ReadIn.own 0 rfl) f0)
  have HT := Lib.hid hT
  have HV := Lib.hid hv
  obtain ⟨n, hn⟩ : ∃ n, l.length = n := ⟨_, rfl⟩
  have HN := Lib.hid hn
  rw [hn] at hll ⊢
  obtain ⟨N, hN⟩ : ∃ N, min n 80 = N := ⟨_, rfl⟩
  have HMin := Lib.hid hN
  clear h1 h2 hf0 hT hv hn hN hmax
  unfold ptr at *
  go_enter Tryz.func4, Tryz.ntmps4
  go_wp2_with (first
    | (go_at_call 12; refine HW.out.mono ?_; rintro e w1 ⟨b, mb, rfl, p, h1⟩; have H1 := Lib.hid (show St w w1 (woL b (trX ⟨newAl 20 9, 0, f0, [], []⟩ []) p ++ _) from h1); clear h1 HW)
    | (go_at_call 13; refine (tr_readerZ 0 rfl H1.out (Nat.zero_lt_succ _)).mono ?_; rintro e w2 ⟨rfl, h2⟩; have H2 := Lib.hid (show St w w2 (woL b (trX ⟨newAl 20 9, 0, f0, [], [0]⟩ []) p ++ _) from h2); clear h2 H1)
    | (go_at_call 13; refine (tr_readerZ 1 rfl H2.out (by show 1 < 100; decide)).mono ?_; rintro e w3 ⟨rfl, h3⟩; have H3 := Lib.hid (show St w w3 (woL b (trX ⟨newAl 20 9, 0, f0, [], [0, 0]⟩ []) p ++ _) from h3); clear h3 H2))
  go_loopg [10, 11, 12] N (fun g v10 v11 v12 wr => LoopTr w b (w.heap.size + 1) w.heap.size p N g v10 v11 v12 wr)
  case atStart =>
    refine ⟨0, 0, 0, ⟨newAl 20 9, 0, f0, [], [0, 0]⟩, [], none, 0, none, 0, by omega, rfl, rfl, rfl, rfl, Nat.le_refl _, rfl, (TrI.start f0).pos [0, 0], rfl, ?_⟩
    have h4 := (H3.out.add (Keep.refl _ _) (A := slA 86 2 (.slice none 0 0) 0 []) (Own.nil _ _ _ _)).first.toMid
    have h5 := (h4.add (Keep.refl _ _) (A := slA 45 2 (.slice none 0 0) 0 []) (Own.nil _ _ _ _)).first.toMid
    exact h5
  case round =>
    obtain ⟨i, nh, nt, T, hs, ha, hc, ta, tc, hg, rfl, rfl, rfl, hhl, hnh, htl, hI, hpos, hst⟩ := hrel
    clear H3
    have HG := Lib.hid hg
    have HI := Lib.hid hI
    have hiN : i ≤ N := by omega
    have hN80 : N ≤ 80 := by rw [← HMin.out]; exact Nat.min_le_right _ _
    have hNn : N ≤ n := by rw [← HMin.out]; exact Nat.min_le_left _ _
    by_cases hlt : i < N
    · obtain ⟨x0, hx0⟩ : ∃ x, l[i]? = some x := ⟨_, List.getElem?_eq_getElem (by rw [HN.out]; omega)⟩
      obtain ⟨bo, oo, ⟨cc, hv⟩, _, hc0⟩ := (HV.out.keep (Keep.ofSt hst) (fun _ _ f => f)).int hx0
      injection hv with hv1 hv2 hv3
      subst hv1; subst hv3
      obtain ⟨xx, hxx, hxl⟩ := and24 x0
      obtain ⟨hb, hhb⟩ : ∃ hb, wr.heap.size = hb := ⟨_, rfl⟩
      have hstb := (hst.box0 #[.int .i64 (-1), .int .i64 0] 45).toMid
      rw [hhb] at hstb
      have hka := (Keep.refl wr Nope).alloc (.cells #[.int .i64 (-1), .int .i64 0] 45)
      obtain ⟨wa, hwa⟩ : ∃ wa, wr.alloc (.cells #[.int .i64 (-1), .int .i64 0] 45) = wa := ⟨_, rfl⟩
      rw [hwa] at hstb hka
      have HB := Lib.hid hstb
      have e0 : decide (n ≤ i) = false := decide_eq_false (by omega)
      have e1 : decide ((i : Int) < (n : Int)) = true := decide_eq_true (by omega)
      have e2 : decide ((i : Int) < 80) = true := decide_eq_true (by omega)
      have e3 : decide (i < 80) = true := decide_eq_true (by omega)
      have HHB := Lib.hid hhb
      have HWA := Lib.hid hwa
      have HLT := Lib.hid hlt
      have hin : i < n := by omega
      have hi80 : i < 80 := by omega
      have HHL := Lib.hid hhl
      have HTL := Lib.hid htl
      have HPos := Lib.hid hpos
      clear hx0 hst hstb hg hka hI hhl htl hpos hlt hhb hwa
      go_upto_region 14 with fail
      rw [HWA.out, HHB.out]
      clear HWA HHB
      go_upto_if 72 with fail
      clear hc0 hxx
      go_cut [] (fun wc => CutH w b hb (w.heap.size + 1) w.heap.size p T hs ha nh hc ta nt tc wc)
      case first =>
        by_cases h0 : 0 < nh
        · have f0 : decide ((nh : Int) > 0) = true := decide_eq_true (by omega)
          have f1 : decide (0 < nh) = true := decide_eq_true h0
          have hql : xx / 8 % nh < nh := Nat.mod_lt _ h0
          have hjl : hs[xx / 8 % nh]? = some (hs[xx / 8 % nh]'(by rw [HHL.out]; exact hql)) := List.getElem?_eq_getElem _
          obtain ⟨⟨hi, hgn⟩, hh⟩ : ∃ h, hs[xx / 8 % nh]'(by rw [HHL.out]; exact hql) = h := ⟨_, rfl⟩
          rw [hh] at hjl
          obtain ⟨S2, _, hrd, _⟩ := HB.out.ofMidB.rd 0 (e := 45) (size := 2) (n := nh) (v := .slice ha nh hc) (xs := flatHd hs) rfl
          obtain ⟨bo2, oo2, hsl, _, hco⟩ := Rd.elem (cells := HdV.cells) (size := 2) (l := hs) hrd (fun _ => rfl) (by decide) hjl
          have x0 := hco 0 (by decide)
          have x1 := hco 1 (by decide)
          simp [HdV.cells] at x0 x1
          subst hsl
          obtain ⟨q, hqe⟩ : ∃ q, xx / 8 % nh = q := ⟨_, rfl⟩
          have hqi : (xx : Int) / 8 % (nh : Int) = (q : Int) := by rw [← hqe, Int.natCast_emod, Int.natCast_ediv]; rfl
          rw [hqe] at hql x0 x1 hjl
          have HQ := Lib.hid hqi
          obtain ⟨y0, y1⟩ := (HB.out.ofMid.blk 0 rfl).two
          clear hrd hco hjl hh hqe
          go_wp2_with fail
          go_meet
          case rel => exact ⟨hi, hgn, (HB.out.ofMid.write2 _ _).toMid⟩
        · have f0 : decide ((nh : Int) > 0) = false := decide_eq_false (by omega)
          have f1 : decide (0 < nh) = false := decide_eq_false h0
          go_wp2_with fail
          go_meet
          case rel => exact ⟨_, _, HB.out⟩
      case rest =>
        obtain ⟨hi, hgn, hst⟩ := hcut
        clear HB e0 e1 e2 e3
        obtain ⟨vb, hvb⟩ : ∃ vb, wc.heap.size = vb := ⟨_, rfl⟩
        have hsv := (hst.box0 #[.int .i64 1, .int .i64 ((xx : Int) / 32), .int .i64 0] 34).toMid
        rw [hvb] at hsv
        obtain ⟨wv, hwv⟩ : ∃ wv, wc.alloc (.cells #[.int .i64 1, .int .i64 ((xx : Int) / 32), .int .i64 0] 34) = wv := ⟨_, rfl⟩
        rw [hwv] at hsv
        have HB := Lib.hid hsv
        have HVB := Lib.hid hvb
        have HWV := Lib.hid hwv
        have h7 := and7 xx
        obtain ⟨q, hq⟩ : ∃ q, xx % 8 = q := ⟨_, rfl⟩
        rw [hq] at h7
        have hq8 : q < 8 := by omega
        clear hst hsv hvb hwv hq
        go_upto_region 17 with fail
        rw [HWV.out, HVB.out]
        clear HWV HVB
        go_upto_block 2 with fail
        clear h7
        obtain ⟨x0, x1, _, _⟩ := (HB.out.ofMidB.blk 0 rfl).two
        have y0 := (HB.out.ofMid.blk 0 rfl).cell 0
        have y1 := (HB.out.ofMid.blk 0 rfl).cell 1
        have y2 := (HB.out.ofMid.blk 0 rfl).cell 2
        simp at y0 y1 y2
        have HV0 : okV 1 ((xx : Int) / 32) 0 = true := rfl
        have HCr := Lib.hid (tr_create HB.out HT.out HI.out)
        have HIn := Lib.hid (tr_insert HB.out HI.out (by omega) hi hgn ⟨1, (xx : Int) / 32, 0⟩ HV0 rfl)
        have HSe := Lib.hid (tr_set HB.out HI.out (by omega) hi hgn ⟨1, (xx : Int) / 32, 0⟩ HV0 rfl)
        have HRe := Lib.hid (tr_remove HB.out HI.out (by omega) hi hgn)
        have HDe := Lib.hid (tr_delete HB.out HI.out (by omega) hi hgn)
        unfold ptr at HCr HIn HSe HRe HDe
        unfold hdV at HCr HIn HSe HRe HDe
        unfold VV.val at HIn HSe
        go_cut [10] (fun v10 wc => CutB w b (w.heap.size + 1) w.heap.size p T i ta nt tc v10 wc)
        case first =>
          have hq9 : q = 0 ∨ q = 1 ∨ q = 2 ∨ q = 3 ∨ q = 4 ∨ q = 5 ∨ q = 6 ∨ q = 7 := by omega
          rcases hq9 with rfl | rfl | rfl | rfl | rfl | rfl | rfl | rfl
          · clear HIn HSe HRe HDe
            go_upto_region 23 with (go_at_call 14; refine HCr.out.mono ?_; rintro e w2 ⟨cx, cg, er, T', rfl, hI2, hto, hlog, h2⟩; have H2 := Lib.hid (show St w w2 (woL b (trX T' []) p ++ trR (w.heap.size + 1) w.heap.size hs ha nh hc T.log ta nt tc) from h2.ofMid.rest.ofMid.rest); clear h2 HCr)
            obtain ⟨w3, hw3⟩ : ∃ w3, w2.alloc (.cells #[.int .i64 cx, .int .i64 cg] 45) = w3 := ⟨_, rfl⟩
            have h3 := (H2.out.box0 #[.int .i64 cx, .int .i64 cg] 45).toMid
            obtain ⟨z0, z1, _, _⟩ := (h3.ofMid.blk 0 rfl).two
            rw [hw3] at h3 z0 z1 ⊢
            have H3 := Lib.hid h3
            by_cases her : er = 0
            · subst her
              obtain ⟨G, hown, _, hup, _⟩ := h3.ofMidB.opens 0 rfl
              have HOwn := Lib.hid (show Own G w3 45 2 (.slice ha nh hc) nh (flatHd hs) from hown)
              have HUP := Lib.hid hup
              clear hown hup h3 hw3 H2 HB x0 x1 y0 y1 y2
              go_wp2_with (at_builtin; go_loud (refine wpList_app (P := Tryz.prog) slHd rfl _ _ rfl (S := G) (S2 := fun z => z = w3.heap.size) (n := nh) (xs := flatHd hs) (m := 1) (news := [.int .i64 cx, .int .i64 cg]) rfl rfl ?_ (Own.lit (S := fun z => z = w3.heap.size) w3 45 2 1 #[.int .i64 cx, .int .i64 cg] (by decide) rfl rfl).rd rfl (by intro u hu; simp at hu; rcases hu with rfl | rfl <;> rfl) (by omega) (by unfold maxLen; omega) ?_; (· exact HOwn.out.keep (T := Nope) ((Keep.refl w3 Nope).alloc _) (fun _ _ f => f)); rintro a' k' c' w5 happ; obtain ⟨z1, z2⟩ := app_up (wr := w3) ((Keep.refl w3 Nope).alloc _) happ; obtain rfl := happ.num; have h5 := HUP.out w5 _ z1 z2; have h5' := St.toMidB (P := woL b (trX T' []) p) h5; rw [flatHd_snoc] at h5'; have H5 := Lib.hid (show St w w5 (woL b (trX T' []) p ++ trR (w.heap.size + 1) w.heap.size (hs ++ [⟨cx, cg⟩]) a' (nh + 1) c' T.log ta nt tc) from h5'.ofMid.rest); clear happ z1 z2 h5 h5' HOwn HUP))
              go_meet
              case rel => exact ⟨T', hs ++ [⟨cx, cg⟩], a', nh + 1, c', rfl, by rw [List.length_append, HHL.out]; rfl, by omega, hI2.up (by omega), hto, H5.out⟩
            · have e0 : decide (er = 0) = false := decide_eq_false her
              clear h3 hw3 H2 HB x0 x1 y0 y1 y2
              go_wp2_with fail
              go_meet
              case rel => exact ⟨T', hs, ha, nh, hc, rfl, HHL.out, by omega, hI2.up (by omega), hto, H3.out.ofMid.rest⟩
          · clear HIn HSe HRe HDe
            go_upto_region 23 with (go_at_call 14; refine HCr.out.mono ?_; rintro e w2 ⟨cx, cg, er, T', rfl, hI2, hto, hlog, h2⟩; have H2 := Lib.hid (show St w w2 (woL b (trX T' []) p ++ trR (w.heap.size + 1) w.heap.size hs ha nh hc T.log ta nt tc) from h2.ofMid.rest.ofMid.rest); clear h2 HCr)
            obtain ⟨w3, hw3⟩ : ∃ w3, w2.alloc (.cells #[.int .i64 cx, .int .i64 cg] 45) = w3 := ⟨_, rfl⟩
            have h3 := (H2.out.box0 #[.int .i64 cx, .int .i64 cg] 45).toMid
            obtain ⟨z0, z1, _, _⟩ := (h3.ofMid.blk 0 rfl).two
            rw [hw3] at h3 z0 z1 ⊢
            have H3 := Lib.hid h3
            by_cases her : er = 0
            · subst her
              obtain ⟨G, hown, _, hup, _⟩ := h3.ofMidB.opens 0 rfl
              have HOwn := Lib.hid (show Own G w3 45 2 (.slice ha nh hc) nh (flatHd hs) from hown)
              have HUP := Lib.hid hup
              clear hown hup h3 hw3 H2 HB x0 x1 y0 y1 y2
              go_wp2_with (at_builtin; go_loud (refine wpList_app (P := Tryz.prog) slHd rfl _ _ rfl (S := G) (S2 := fun z => z = w3.heap.size) (n := nh) (xs := flatHd hs) (m := 1) (news := [.int .i64 cx, .int .i64 cg]) rfl rfl ?_ (Own.lit (S := fun z => z = w3.heap.size) w3 45 2 1 #[.int .i64 cx, .int .i64 cg] (by decide) rfl rfl).rd rfl (by intro u hu; simp at hu; rcases hu with rfl | rfl <;> rfl) (by omega) (by unfold maxLen; omega) ?_; (· exact HOwn.out.keep (T := Nope) ((Keep.refl w3 Nope).alloc _) (fun _ _ f => f)); rintro a' k' c' w5 happ; obtain ⟨z1, z2⟩ := app_up (wr := w3) ((Keep.refl w3 Nope).alloc _) happ; obtain rfl := happ.num; have h5 := HUP.out w5 _ z1 z2; have h5' := St.toMidB (P := woL b (trX T' []) p) h5; rw [flatHd_snoc] at h5'; have H5 := Lib.hid (show St w w5 (woL b (trX T' []) p ++ trR (w.heap.size + 1) w.heap.size (hs ++ [⟨cx, cg⟩]) a' (nh + 1) c' T.log ta nt tc) from h5'.ofMid.rest); clear happ z1 z2 h5 h5' HOwn HUP))
              go_meet
              case rel => exact ⟨T', hs ++ [⟨cx, cg⟩], a', nh + 1, c', rfl, by rw [List.length_append, HHL.out]; rfl, by omega, hI2.up (by omega), hto, H5.out⟩
            · have e0 : decide (er = 0) = false := decide_eq_false her
              clear h3 hw3 H2 HB x0 x1 y0 y1 y2
              go_wp2_with fail
              go_meet
              case rel => exact ⟨T', hs, ha, nh, hc, rfl, HHL.out, by omega, hI2.up (by omega), hto, H3.out.ofMid.rest⟩
          · clear HCr HSe HRe HDe
            go_wp2_with (go_at_call 15; refine HIn.out.mono ?_; rintro e w2 ⟨v2, T', rfl, hI2, hto, h2⟩; have H2 := Lib.hid h2; clear h2 HIn)
            go_meet
            case rel => exact ⟨T', hs, ha, nh, hc, rfl, HHL.out, by omega, hI2.up (by omega), hto, H2.out.ofMid.rest.ofMid.rest⟩
          · clear HCr HSe HRe HDe
            go_wp2_with (go_at_call 15; refine HIn.out.mono ?_; rintro e w2 ⟨v2, T', rfl, hI2, hto, h2⟩; have H2 := Lib.hid h2; clear h2 HIn)
            go_meet
            case rel => exact ⟨T', hs, ha, nh, hc, rfl, HHL.out, by omega, hI2.up (by omega), hto, H2.out.ofMid.rest.ofMid.rest⟩
          · clear HCr HIn HRe HDe
            go_wp2_with (go_at_call 16; refine HSe.out.mono ?_; rintro e w2 ⟨v2, T', rfl, hI2, hto, h2⟩; have H2 := Lib.hid h2; clear h2 HSe)
            go_meet
            case rel => exact ⟨T', hs, ha, nh, hc, rfl, HHL.out, by omega, hI2.up (by omega), hto, H2.out.ofMid.rest.ofMid.rest⟩
          · clear HCr HIn HSe HDe
            go_wp2_with (go_at_call 17; refine HRe.out.mono ?_; rintro e w2 ⟨v2, T', rfl, hI2, hto, h2⟩; have H2 := Lib.hid h2; clear h2 HRe)
            go_meet
            case rel => exact ⟨T', hs, ha, nh, hc, rfl, HHL.out, by omega, hI2.up (by omega), hto, H2.out.ofMid.rest.ofMid.rest⟩
          · clear HCr HIn HSe HRe
            go_wp2_with (go_at_call 18; refine HDe.out.mono ?_; rintro e w2 ⟨v2, T', rfl, hI2, hto, h2⟩; have H2 := Lib.hid h2; clear h2 HDe)
            go_meet
            case rel => exact ⟨T', hs, ha, nh, hc, rfl, HHL.out, by omega, hI2.up (by omega), hto, H2.out.ofMid.rest.ofMid.rest⟩
          · clear HCr HIn HSe HRe HDe
            have HDf := Lib.hid (tr_defer hi hgn ⟨1, (xx : Int) / 32, 0⟩ (HB.out.alloc (.cells #[.int .i64 2, .int .i64 hi, .int .i64 hgn, .int .i64 0, .int .i64 1, .int .i64 ((xx : Int) / 32), .int .i64 0, .int .i64 1, .int .i64 hi, .int .i64 hgn, .int .i64 0, .int .i64 0, .int .i64 0, .int .i64 0] 79)) HI.out (by omega) HV0 rfl (fun z => z = wv.heap.size) _ (Own.lit (S := fun z => z = wv.heap.size) wv 79 7 2 #[.int .i64 2, .int .i64 hi, .int .i64 hgn, .int .i64 0, .int .i64 1, .int .i64 ((xx : Int) / 32), .int .i64 0, .int .i64 1, .int .i64 hi, .int .i64 hgn, .int .i64 0, .int .i64 0, .int .i64 0, .int .i64 0] (by decide) rfl rfl).rd)
            have HMt := Lib.hid (fun (w' : World) (R : List Asr) (h : (T.al.st hi hgn = 1 ∧ St w w' (woL b (trX T (trOps hi hgn ⟨1, (xx : Int) / 32, 0⟩)) p ++ R)) ∨ St w w' (woL b (trX T []) p ++ R)) => tr_maintD hi hgn ⟨1, (xx : Int) / 32, 0⟩ h HT.out HI.out (by omega) HV0 rfl)
            unfold ptr at HDf HMt
            go_wp2_with (first
              | (go_at_call 19; refine HDf.out.mono ?_; rintro e w8 ⟨er, rfl, h8⟩; have H8 := Lib.hid h8; clear h8 HDf)
              | (go_at_call 20; refine (HMt.out _ _ H8.out).mono ?_; rintro e w9 ⟨v9, T', rfl, hI2, hto, h9⟩; have H9 := Lib.hid h9; clear h9 HMt H8))
            go_meet
            case rel => exact ⟨T', hs, ha, nh, hc, rfl, HHL.out, by omega, hI2, hto, H9.out.ofMid.rest.ofMid.rest⟩
        case rest =>
          obtain ⟨T', hs', ha', nh', hc', rfl, hhl', hnh', hI2, hto, h10⟩ := hcut
          have hlog := hto.len
          rw [HTL.out] at hlog
          have hI2l := hI2.len
          obtain ⟨d, hd⟩ : ∃ d, nt + d = T'.log.length := ⟨T'.log.length - nt, by omega⟩
          have HRd := Lib.hid (tr_read h10 hI2 (by omega) 0 nt d (by rw [hto.pos, HPos.out]; show 2 ≤ 100; decide) (by rw [hto.pos, HPos.out]; rfl) hd)
          have hd2 : d ≤ 162 := by omega
          have hnt2 : nt ≤ 162 := by omega
          have HTold := Lib.hid hto.told
          rw [HTL.out] at HTold
          have HI2 := Lib.hid hI2
          have HD := Lib.hid hd
          have HPo2 := Lib.hid (show T'.pos.set 0 T'.log.length = [T'.log.length, 0] by rw [hto.pos, HPos.out]; rfl)
          have HHL2 := Lib.hid hhl'
          clear HCr HIn HSe HRe HDe HB hto h10 hlog hI2l x0 x1 y0 y1 y2 hI2 HHL HPos hhl' hd HI
          unfold ptr at HRd
          go_upto_region 37 with (go_at_call 21; refine HRd.out.mono ?_; rintro e w2 ⟨ea, ec, rfl, h2⟩; have H2 := Lib.hid h2; clear h2 HRd)
          obtain ⟨G, hown, _, hup, _⟩ := H2.out.ofMidC.opens 0 rfl
          obtain ⟨S3, _, hrd3, _⟩ := H2.out.ofMid.rd 0 (e := 86) (size := 2) (n := d) (v := .slice ea d ec) (xs := flatEv (T'.log.drop nt)) rfl
          have HOwn := Lib.hid (show Own G w2 86 2 (.slice ta nt tc) nt (flatEv T.log) from hown)
          have HR3 := Lib.hid hrd3
          have HUP := Lib.hid hup
          clear hown hup hrd3 H2
          go_wp2_with (at_builtin; go_loud (refine wpList_app (P := Tryz.prog) slEv rfl _ _ rfl (S := G) (S2 := S3) (n := nt) (xs := flatEv T.log) (m := d) (news := flatEv (T'.log.drop nt)) rfl rfl HOwn.out HR3.out (by rw [flatEv_len, List.length_drop]; have := HD.out; omega) (flatEv_one _) (by omega) (by unfold maxLen; omega) ?_; rintro a' k' c' w5 happ; obtain ⟨z1, z2⟩ := app_up (wr := w2) (Keep.refl w2 Nope) happ; obtain rfl := happ.num; have h5 := HUP.out w5 _ z1 z2; have h5' := St.toMidC (P := woL b (trX { T' with pos := T'.pos.set 0 T'.log.length } []) p) h5; rw [HTold.out] at h5'; have H5 := Lib.hid h5'.ofMid.rest; clear happ z1 z2 h5 h5' HOwn HUP HR3))
          go_roundg (N - (i + 1))
          case measure => have := HG.out; have := HLT.out; omega
          case rel => exact ⟨i + 1, nh', nt + d, { T' with pos := T'.pos.set 0 T'.log.length }, hs', ha', hc', a', c', by have := HLT.out; omega, by go_num, rfl, rfl, HHL2.out, hnh', by show T'.log.length = nt + d; have := HD.out; omega, (HI2.out.pos _), HPo2.out.trans (by rw [← HD.out]), H5.out⟩
    · have hns : n ≤ i ∨ (i < n ∧ 80 ≤ i) := by have := HMin.out; omega
      have hnt2 := hI.len
      have HRd := Lib.hid (tr_read hst hI (by omega) 1 0 nt (by rw [hpos]; show 2 ≤ 100; decide) (by rw [hpos]; rfl) (by omega))
      have HTL := Lib.hid htl
      clear hhl htl hpos hst hI
      unfold ptr at HRd
      go_upto_region 10 with fail
      go_cut [61] (fun v61 wc => v61 = .bool false ∧ wc = wr)
      case first =>
        rcases hns with h0 | ⟨h0, h1⟩
        · have e1 : decide ((i : Int) < (n : Int)) = false := decide_eq_false (by omega)
          go_wp2_with fail
          go_meet
          case rel => exact ⟨rfl, rfl⟩
        · have e1 : decide ((i : Int) < (n : Int)) = true := decide_eq_true (by omega)
          have e2 : decide ((i : Int) < 80) = false := decide_eq_false (by omega)
          go_wp2_with fail
          go_meet
          case rel => exact ⟨rfl, rfl⟩
      case rest =>
        obtain ⟨rfl, rfl⟩ := hcut
        go_upto_region 39 with (go_at_call 21; refine HRd.out.mono ?_; rintro e w2 ⟨ea, ec, rfl, h2⟩; have H2 := Lib.hid h2; clear h2 HRd)
        obtain ⟨S3, _, hrd3, _⟩ := H2.out.ofMid.rd 0 (e := 86) (size := 2) (n := nt) (v := .slice ea nt ec) (xs := flatEv (T.log.drop 0)) rfl
        obtain ⟨S4, _, hrd4, _⟩ := H2.out.ofMidC.rd 0 (e := 86) (size := 2) (n := nt) (v := .slice ta nt tc) (xs := flatEv T.log) rfl
        have hsame := (show Calls Tryz.prog 22 #[.slice ea T.log.length ec, .slice ta T.log.length tc] w2 (Ret w2 (.bool true)) from same_ev _ _ T.log w2 S3 S4 (by rw [HTL.out]; exact hrd3) (by rw [HTL.out]; exact hrd4))
        rw [HTL.out] at hsame
        have HSame := Lib.hid hsame
        obtain ⟨T2, hT2⟩ : ∃ T2, { T with pos := T.pos.set 1 T.log.length } = T2 := ⟨_, rfl⟩
        have hI3 : TrI T2 (2 * i) := by rw [← hT2]; exact HI.out.pos _
        have hlog : T2.log = T.log := by rw [← hT2]
        have h3 := H2.out.ofMid.rest
        rw [hT2, ← hlog] at h3
        have hlen2 : T2.log.length = nt := by rw [hlog]; exact HTL.out
        have H3 := Lib.hid h3
        have HI3 := Lib.hid hI3
        have HLen := Lib.hid hlen2
        have hnt3 : nt ≤ 160 := by have := hI3.len; omega
        clear hrd3 hrd4 hsame hT2 hI3 hlog h3 H2 HTL HI hlen2 hns hnt2 hg
        go_wp2_with (go_at_call 22; refine HSame.out.mono ?_; rintro e w4 ⟨rfl, hk4⟩; have H4 := Lib.hid (H3.out.keep hk4); clear hk4 HSame H3)
        go_loopg [24, 25] nt (fun g v24 v25 wr => LoopTh w (woL b (trX T2 []) p ++ trR (w.heap.size + 1) w.heap.size hs ha nh hc T2.log ta nt tc) T2.log nt g v24 v25 wr)
        case atStart => exact ⟨0, 0, [], none, 0, fun _ => False, by omega, rfl, rfl, rfl, Nat.le_refl _, Th.nil, (Own.nil (fun _ => False) w4 3 1).rd, H4.out⟩
        case round =>
          obtain ⟨j, nth, th, a, c, S1, hg, rfl, rfl, hth, hnth, hTh, hrd, hst⟩ := hrel
          have HG := Lib.hid hg
          have HTh := Lib.hid hTh
          have HR3 := Lib.hid hrd
          have HST := Lib.hid hst
          have HNt := Lib.hid hth
          clear H4 hst hrd hTh hth
          by_cases hlt : j < nt
          · obtain ⟨⟨ek, ei⟩, hj⟩ : ∃ e, T2.log[j]? = some e := ⟨_, List.getElem?_eq_getElem (by rw [HLen.out]; exact hlt)⟩
            obtain ⟨k, hk64, hidx, hok⟩ := HI3.out.ok j _ hj
            simp only at hidx hok
            subst hidx
            obtain ⟨S5, _, hrd5, _⟩ := HST.out.ofMidB.rd 0 (e := 86) (size := 2) (n := nt) (v := .slice ta nt tc) (xs := flatEv T2.log) rfl
            obtain ⟨bo, oo, hsl, _, hco⟩ := Rd.elem (cells := EvV.cells) (size := 2) (l := T2.log) hrd5 (fun _ => rfl) (by decide) hj
            have x0 := hco 0 (by decide)
            have x1 := hco 1 (by decide)
            simp [EvV.cells] at x0 x1
            subst hsl
            have hms := maskE_take_succ hj
            have e1 : decide ((j : Int) < (nt : Int)) = true := decide_eq_true (by omega)
            have e2 : decide (nt ≤ j) = false := decide_eq_false (by omega)
            clear hrd5 hco hj
            go_upto_region 46 with fail
            obtain ⟨w4, hw4⟩ : ∃ w4, wr.alloc (.cells #[.int .i64 ek, .int .i64 k] 86) = w4 := ⟨_, rfl⟩
            have h4 := HST.out.box0 #[.int .i64 ek, .int .i64 k] 86
            obtain ⟨z0, z1, _, _⟩ := (h4.blk 0 rfl).two
            have hr4 := HR3.out.keep ((Keep.refl wr Nope).alloc (.cells #[.int .i64 ek, .int .i64 k] 86)) (fun _ _ f => f)
            rw [hw4] at h4 z0 z1 hr4 ⊢
            have H4 := Lib.hid h4.rest
            have HR4 := Lib.hid hr4
            have hin := (show Calls Tryz.prog 23 #[.slice a th.length c, .int .i64 k] w4 (Ret w4 (.bool (decide ((k : Int) ∈ th)))) from ref_in _ th k w4 S1 (by rw [HNt.out]; exact hr4) HTh.out.1 (by rw [HNt.out]; omega))
            rw [HNt.out, HTh.out.mem] at hin
            clear hw4 h4 hr4 HST HR3 x0 x1
            rcases hok with ⟨rfl, hb⟩ | ⟨rfl, hb⟩ | ⟨rfl, hb⟩
            · rw [hb] at hin
              rw [apE_1] at hms
              have HMs := Lib.hid hms
              have HIn := Lib.hid hin
              clear hin hms hb
              go_wp2_with (first
                | (go_at_call 23; refine HIn.out.mono ?_; rintro e w5 ⟨rfl, hk5⟩; have z2 := hk5.cell z0 (fun f => f); have z3 := hk5.cell z1 (fun f => f); have H5 := Lib.hid (H4.out.keep hk5); have HR5 := Lib.hid (HR4.out.keep hk5 (fun _ _ f => f)); clear z0 z1 hk5 HIn H4 HR4)
                | (go_at_call 24; refine (show Calls Tryz.prog 24 #[.slice a nth c, .int .i64 k] _ (RetWith _ th k) from ref_with _ th k _ S1 (by rw [HNt.out]; exact HR5.out) HTh.out.1 (by rw [HNt.out]; omega)).mono ?_; rintro e w6 ⟨S6, a6, c6, L6, rfl, hr6, hm6, hl6, hrd6, hk6⟩; have z4 := hk6.cell z2 (fun f => f); have H6 := Lib.hid (H5.out.keep hk6); have HR6 := Lib.hid hrd6; have HQ := Lib.hid (And.intro hr6 (And.intro hm6 hl6)); clear z2 z3 hk6 hrd6 H5 HR5 hr6 hm6 hl6))
              go_roundg (nt - (j + 1))
              case measure => have := HG.out; omega
              case rel => exact ⟨j + 1, _, L6, a6, c6, S6, by omega, by go_num, rfl, rfl, by have := HQ.out.2.2; have := HNt.out; omega, by rw [HMs.out]; exact HTh.out.add HQ.out.1 HQ.out.2.1, HR6.out, H6.out⟩
            · rw [hb] at hin
              rw [apE_2] at hms
              have HMs := Lib.hid hms
              have HIn := Lib.hid hin
              clear hin hms hb
              go_wp2_with (go_at_call 23; refine HIn.out.mono ?_; rintro e w5 ⟨rfl, hk5⟩; have z2 := hk5.cell z0 (fun f => f); have z3 := hk5.cell z1 (fun f => f); have H5 := Lib.hid (H4.out.keep hk5); have HR5 := Lib.hid (HR4.out.keep hk5 (fun _ _ f => f)); clear z0 z1 hk5 HIn H4 HR4)
              go_roundg (nt - (j + 1))
              case measure => have := HG.out; omega
              case rel => exact ⟨j + 1, nth, th, a, c, S1, by omega, by go_num, rfl, HNt.out, by omega, by rw [HMs.out]; exact HTh.out, HR5.out, H5.out⟩
            · rw [hb] at hin
              rw [apE_3] at hms
              have HMs := Lib.hid hms
              have HIn := Lib.hid hin
              clear hin hms hb
              go_wp2_with (first
                | (go_at_call 23; refine HIn.out.mono ?_; rintro e w5 ⟨rfl, hk5⟩; have z2 := hk5.cell z0 (fun f => f); have z3 := hk5.cell z1 (fun f => f); have H5 := Lib.hid (H4.out.keep hk5); have HR5 := Lib.hid (HR4.out.keep hk5 (fun _ _ f => f)); clear z0 z1 hk5 HIn H4 HR4)
                | (go_at_call 25; refine (show Calls Tryz.prog 25 #[.slice a nth c, .int .i64 k] _ (RetWout _ th k) from ref_without _ th k _ S1 (by rw [HNt.out]; exact HR5.out) HTh.out.1 (by rw [HNt.out]; omega)).mono ?_; rintro e w6 ⟨S6, a6, c6, L6, rfl, hr6, hm6, hl6, hrd6, hk6⟩; have H6 := Lib.hid (H5.out.keep hk6); have HR6 := Lib.hid hrd6; have HQ := Lib.hid (And.intro hr6 (And.intro hm6 hl6)); clear z2 z3 hk6 hrd6 H5 HR5 hr6 hm6 hl6))
              go_roundg (nt - (j + 1))
              case measure => have := HG.out; omega
              case rel => exact ⟨j + 1, _, L6, a6, c6, S6, by omega, by go_num, rfl, rfl, by have := HQ.out.2.2; have := HNt.out; omega, by rw [HMs.out]; exact HTh.out.del (maskE_lt HI3.out.ok j) HQ.out.1 HQ.out.2.1, HR6.out, H6.out⟩
          · have hjn : j = nt := by omega
            subst hjn
            have e1 : decide ((j : Int) < (j : Int)) = false := decide_eq_false (by omega)
            have hm := HI3.out.m
            have hTh2 := HTh.out
            rw [List.take_of_length_le (by rw [HLen.out]; exact Nat.le_refl _), ← hm] at hTh2
            have hlist := hTh2.list HI3.out.lt
            have hl1 : (listW T2.m).length = nth := by rw [← HNt.out, hlist, List.length_map]
            have he1 : intsN (listW T2.m) = ints th := by rw [hlist, ints_intsN]
            have h5 := HST.out.box0 #[.int .i64 1, .int .i64 0] 92
            obtain ⟨x0, x1, _, _⟩ := (h5.blk 0 rfl).two
            have hof := rows_of1 (HW := h5.rest) (HT.out.st h5) HI3.out.al (by show 1 ≤ 64; decide) T2.sl rfl HI3.out.lt wr.heap.size 0 1 (by decide) x0 x1
            rw [show (trX T2 []).en.al.live &&& T2.sl.m = T2.m from HI3.out.and] at hof
            unfold RetRows ptr at hof
            rw [hl1, he1] at hof
            have HOf := Lib.hid hof
            have HR4 := Lib.hid (HR3.out.keep ((Keep.refl wr Nope).alloc (.cells #[.int .i64 1, .int .i64 0] 92)) (fun _ _ f => f))
            have H5 := Lib.hid h5.rest
            clear hof h5 x0 x1 hl1 he1 hlist hTh2 hm HST HR3 HTh hg HG
            go_wp2_with (first
              | (go_at_call 26; refine HOf.out.mono ?_; rintro e w6 ⟨ra, rc, rfl, h6⟩; obtain ⟨S6, _, hrd6, _⟩ := h6.rd 0 rfl; have hs := same_ints (.slice ra th.length rc) (.slice a th.length c) th w6 S6 S1 (by rw [HNt.out]; exact hrd6) (by rw [HNt.out]; exact HR4.out.keep (Keep.ofSt h6) (fun _ _ f => f)); rw [HNt.out] at hs; have HSm := Lib.hid hs; have H6 := Lib.hid (H5.out.keep (Keep.ofSt h6)); clear h6 hrd6 hs HOf H5 HR4)
              | (go_at_call 27; refine HSm.out.mono ?_; rintro e w7 ⟨rfl, hk7⟩; have H7 := Lib.hid (H6.out.keep hk7); clear hk7 HSm H6)
              | (go_at_call 9; refine (top_awake (HT.out.st H7.out)).mono ?_; rintro e w9 ⟨rfl, hk9⟩; have H9 := Lib.hid (H7.out.keep hk9); clear hk9 H7))
            go_ret
            exact ⟨rfl, H9.out.bel⟩
end Go.Proofs.YtkiikblpgppmkaaGreatDoor

namespace Go.Proofs.YtkiikblpgppmkaaGreatDoor
open Go Go.RowKit
set_option linter.unusedVariables false
set_option linter.unusedSimpArgs false

theorem mapM_some {α β : Type} {f : α → Option β} : ∀ {l : List α} {ys : List β}, l.mapM f = some ys → ys.length = l.length ∧ ∀ (i : Nat) (x : α), l[i]? = some x → ∃ y, f x = some y ∧ ys[i]? = some y
  | [], ys, h => by
    simp at h
    subst h
    exact ⟨rfl, fun i x hx => by simp at hx⟩
  | a :: l, ys, h => by
    simp only [List.mapM_cons, Option.bind_eq_bind, Option.bind_eq_some_iff] at h
    obtain ⟨y, hy, zs, hz, he⟩ := h
    simp at he
    subst he
    obtain ⟨h1, h2⟩ := mapM_some hz
    refine ⟨by simp [h1], fun i x hx => ?_⟩
    cases i with
    | zero => simp at hx; subst hx; exact ⟨y, hy, by simp⟩
    | succ i => simp at hx; obtain ⟨y', h3, h4⟩ := h2 i x hx; exact ⟨y', h3, by simpa using h4⟩

/-- A list out of a choice at each place. -/
theorem list_of {α : Type} (P : Nat → α → Prop) : ∀ (n : Nat), (∀ i, i < n → ∃ x, P i x) → ∃ l : List α, l.length = n ∧ ∀ i x, l[i]? = some x → P i x
  | 0, _ => ⟨[], rfl, fun i x hx => by simp at hx⟩
  | n + 1, h => by
    obtain ⟨l, h1, h2⟩ := list_of P n (fun i hi => h i (by omega))
    obtain ⟨x, hx⟩ := h n (by omega)
    refine ⟨l ++ [x], by simp [h1], fun i y hy => ?_⟩
    rw [List.getElem?_append] at hy
    split at hy
    · exact h2 i y hy
    · rename_i hi
      have : i - l.length = 0 := by
        rcases Nat.eq_zero_or_pos (i - l.length) with h | h
        · exact h
        · rw [List.getElem?_eq_none (by simp; omega)] at hy; cases hy
      rw [this] at hy
      simp at hy
      subst hy
      obtain rfl : i = n := by omega
      exact hx

theorem lt_of_getElem? {α : Type} {l : List α} {k : Nat} {x : α} (h : l[k]? = some x) : k < l.length := (List.getElem?_eq_some_iff.1 h).1

section
variable {H : Type} {enc : TypeId × Value → H} {P : Program} {w : World} {base : Nat} {sp : Nat → Bool} {held : Bool}

theorem cells_some {a : Addr} {n : Nat} {row : List Value} (h : w.cells? base a n = some row) : row.length = n ∧ ∀ j, j < n → w.cell? (a.add j) = row[j]? := by
  unfold World.cells? at h
  split at h
  · obtain ⟨h1, h2⟩ := mapM_some h
    refine ⟨by simpa using h1, fun j hj => ?_⟩
    obtain ⟨y, h3, h4⟩ := h2 j j (by rw [List.getElem?_range hj])
    rw [h3, h4]
  · cases h

/-- It reads as a value of the type, at some depth. -/
def Reads (enc : TypeId × Value → H) (P : Program) (w : World) (base : Nat) (sp : Nat → Bool) (held : Bool) (t : TypeId) (cs : List Value) : Prop :=
  ∃ fuel x, DataW.trod enc P w base sp held fuel t cs = some x

theorem reads_int {t : TypeId} {k : IntKind} {cs : List Value} (ht : P.underlying t = some (.int k)) (h : Reads enc P w base sp held t cs) : ∃ n, cs = [.int k n] ∧ (Lit.int k n).wf = true := by
  obtain ⟨fuel, x, h⟩ := h
  obtain ⟨n, h1, _, h2⟩ := DataW.trod_int ht h
  exact ⟨n, h1, h2⟩
theorem reads_bool {t : TypeId} {cs : List Value} (ht : P.underlying t = some .bool) (h : Reads enc P w base sp held t cs) : ∃ b, cs = [.bool b] := by
  obtain ⟨fuel, x, h⟩ := h
  obtain ⟨n, h1, _⟩ := DataW.trod_bool ht h
  exact ⟨n, h1⟩

/-- A slice that came in: a list of elements, by their cells; 'T x' is what is known of each element. -/
theorem reads_slice {t e : TypeId} {v : Value} {α : Type} (cells : α → List Value) (size : Nat) (T : α → Prop) (ht : P.underlying t = some (.slice e)) (hsz : P.cellsOf e = size) (hlen : ∀ x, (cells x).length = size)
    (hdec : ∀ row, Reads enc P w base sp held e row → ∃ x, row = cells x ∧ T x) (h : Reads enc P w base sp held t [v]) :
    ∃ (a : Option Addr) (c : Nat) (l : List α), v = .slice a l.length c ∧ Rd (fun i => i < w.heap.size) w v l.length (l.flatMap cells) ∧ ∀ x ∈ l, T x := by
  obtain ⟨fuel, x, h⟩ := h
  rcases DataW.trod_slice ht h with ⟨hv, _⟩ | ⟨ad, len, cap, elems, rest, n, _, hv, _, _, h1, h2, h3, h4, _⟩
  · injection hv with hv
    subst hv
    exact ⟨none, 0, [], rfl, ⟨none, 0, rfl, Nat.le_refl _, Nat.zero_le _, fun _ => ⟨rfl, rfl⟩, fun j u hu => by simp at hu⟩, by simp⟩
  · injection hv with hv
    subst hv
    obtain ⟨l, hl1, hl2⟩ := list_of (fun i x => w.cells? base (ad.add (i * P.cellsOf e)) (P.cellsOf e) = some (cells x) ∧ T x) len (by
      intro i hi
      have h5 := h4 i hi
      rw [List.getElem?_eq_getElem (by omega), Option.bind_eq_some_iff] at h5
      obtain ⟨row, h6, h7⟩ := h5
      obtain ⟨y, rfl, hy⟩ := hdec row ⟨_, _, h7⟩
      exact ⟨y, h6, hy⟩)
    subst hl1
    refine ⟨some ad, cap, l, rfl, ⟨some ad, cap, rfl, h1, h2, (fun hx => (by cases hx)), fun j u hu => ?_⟩, fun y hy => ?_⟩
    · have hj : j < l.length * size := by
        have := lt_of_getElem? hu
        rwa [flat_length cells size hlen] at this
      have hpos : 0 < size := by
        rcases Nat.eq_zero_or_pos size with h | h
        · rw [h] at hj; omega
        · exact h
      have hk : j / size < l.length := Nat.div_lt_of_lt_mul (by rw [Nat.mul_comm]; exact hj)
      have hm : j % size < size := Nat.mod_lt _ hpos
      have hjj : j / size * size + j % size = j := by rw [Nat.mul_comm]; exact Nat.div_add_mod j size
      obtain ⟨hc, _⟩ := hl2 (j / size) _ (List.getElem?_eq_getElem hk)
      have h8 := (cells_some hc).2 (j % size) (by rw [hsz]; exact hm)
      have h9 := flat_get cells size hlen l (j / size) (j % size) _ (List.getElem?_eq_getElem hk) hm
      rw [hjj, hu] at h9
      rw [← h9, hsz] at h8
      have h0 := (cells_some (hl2 0 _ (List.getElem?_eq_getElem (Nat.lt_of_le_of_lt (Nat.zero_le _) hk))).1).2 0 (by rw [hsz]; exact hpos)
      rw [Nat.zero_mul] at h0
      have h0' : ∃ u0, w.cell? ad = some u0 := by
        have e : ((ad.add 0).add 0) = ad := by simp [Addr.add]
        rw [e] at h0
        exact ⟨_, h0.trans (List.getElem?_eq_getElem (by rw [hlen]; exact hpos))⟩
      obtain ⟨u0, hu0⟩ := h0'
      obtain ⟨b, o, spot⟩ := ad
      have hspot : spot = none := by
        cases spot with
        | none => rfl
        | some q => 
          unfold World.cell? at hu0
          split at hu0 <;> simp at hu0
      subst hspot
      refine ⟨b, o, rfl, World.block_lt_of_cell? w _ hu0, ?_⟩
      rw [← h8]
      congr 1
      unfold Addr.add
      by_cases e1 : j / size * size = 0
      · rw [if_pos e1]
        by_cases e2 : j % size = 0
        · rw [if_pos e2]; simp only [Addr.mk.injEq, true_and, and_true]; omega
        · rw [if_neg e2]; simp only [Addr.mk.injEq, true_and, and_true]; omega
      · rw [if_neg e1]
        by_cases e2 : j % size = 0
        · rw [if_pos e2]; simp only [Addr.mk.injEq, true_and, and_true]; omega
        · rw [if_neg e2]; simp only [Addr.mk.injEq, true_and, and_true]; omega
    · obtain ⟨i, hi, rfl⟩ := List.getElem_of_mem hy
      exact (hl2 i _ (List.getElem?_eq_getElem hi)).2
theorem reads_of_trod {t : TypeId} {v : Value} {d : DataW H} {ps : List MemPlace} (h : DataW.Trod enc P w base sp held t v d ps) : Reads enc P w base sp held t v.cells.toList := by
  obtain ⟨fuel, h⟩ := h
  exact ⟨fuel, _, h⟩
/-- The fields of a struct that came in. -/
theorem reads_struct {t : TypeId} {fs : Array Field} {cs : List Value} (ht : P.underlying t = some (.struct fs)) (h : Reads enc P w base sp held t cs) :
    cs.length = P.cellsOf t ∧ ∀ (i : Nat) (f : Field), fs[i]? = some f → Reads enc P w base sp held f.type ((cs.drop f.offset).take (P.cellsOf f.type)) := by
  obtain ⟨fuel, x, h⟩ := h
  obtain ⟨xs, n, _, _, h1, h2, h3⟩ := DataW.trod_struct ht h
  refine ⟨h1, fun i f hf => ?_⟩
  have h4 := h3 i f hf
  rw [List.getElem?_eq_getElem (by rw [h2]; exact (Array.getElem?_eq_some_iff.1 hf).1)] at h4
  exact ⟨_, _, h4⟩
end

theorem flat_ints (k : IntKind) : ∀ (l : List Int), l.flatMap (fun n => [Value.int k n]) = l.map (Value.int k)
  | [] => rfl
  | a :: l => by rw [List.flatMap_cons, List.map_cons, flat_ints k l]; rfl
/-- A list of numbers, one cell each. -/
theorem reads_ints {H : Type} {enc : TypeId × Value → H} {P : Program} {w : World} {base : Nat} {sp : Nat → Bool} {held : Bool} {t e : TypeId} {k : IntKind} {v : Value} (ht : P.underlying t = some (.slice e)) (he : P.underlying e = some (.int k)) (hsz : P.cellsOf e = 1)
    (h : Reads enc P w base sp held t [v]) :
    ∃ (a : Option Addr) (c : Nat) (l : List Int), v = .slice a l.length c ∧ Rd (fun i => i < w.heap.size) w v l.length (l.map (Value.int k)) ∧ ∀ x ∈ l, (Lit.int k x).wf = true := by
  obtain ⟨a, c, l, h1, h2, h3⟩ := reads_slice (fun n => [Value.int k n]) 1 (fun n => (Lit.int k n).wf = true) ht hsz (fun _ => rfl) (fun row hr => by
    obtain ⟨n, h1, h2⟩ := reads_int he hr
    exact ⟨n, h1, h2⟩) h
  refine ⟨a, c, l, h1, ?_, h3⟩
  rw [← flat_ints k l]
  exact h2
end Go.Proofs.YtkiikblpgppmkaaGreatDoor
