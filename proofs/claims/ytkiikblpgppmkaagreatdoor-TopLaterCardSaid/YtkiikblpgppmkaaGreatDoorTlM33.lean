/-
  The laws' helpers: worlds made of numbers; The laws' helpers: a world, and the document's, made of numbers alone.
-/
import Derived.Test.YtkiikblpgppmkaaGreatDoorTlM31
import Derived.Test.YtkiikblpgppmkaaGreatDoorTlM32
import Derived.Deep.CutBlock
namespace Go.Proofs.YtkiikblpgppmkaaGreatDoor
open Go Go.RowKit
set_option linter.unusedVariables false
set_option linter.unusedSimpArgs false

theorem m5A_create {w0 w : World} {L : List Asr} {b N : Nat} {al : AlS} {ds : List DescV} (H : St w0 w (m5A b al ds N :: L)) (k : Nat) (hk : firstW al.free 0 = (k : Int)) :
    Calls Tryz.prog 43 #[ptr b] w (fun e w' => e = .returned (.tuple #[hdV k ((al.gen k + 1 : Nat) : Int), .int .i64 0]) ∧ St w0 w' (m5A b (al.made k) ds N :: L)) := by
  obtain ⟨xs, p, h1, h2, h3⟩ := H.m5Open
  refine (m5_create h3 k hk).mono ?_
  rintro e w' ⟨rfl, h⟩
  exact ⟨rfl, St.m5Shut h1 h2 h⟩
theorem m5A_create_no {w0 w : World} {L : List Asr} {b N : Nat} {al : AlS} {ds : List DescV} (H : St w0 w (m5A b al ds N :: L)) (hk : firstW al.free 0 = -1) :
    Calls Tryz.prog 43 #[ptr b] w (Ret5No w) := by
  obtain ⟨xs, p, h1, h2, h3⟩ := H.m5Open
  exact m5_create_no h3 hk
theorem St.wlMk {w0 w : World} {A B : Asr} {W R : List Asr} (h : St w0 w (A :: B :: (W ++ R))) : St w0 w (W ++ B :: A :: R) :=
  St.toMidB (P := W) (St.toMid (P := A :: W) (R := R) h.sw)
def wlW (X : WlS) (rs : List Int) (n top : Nat) : WoS := ⟨X.en, rs, [], n, top⟩
def wlR (mb : Nat) (X : WlS) (ds : List DescV) (i : Nat) (ha : Option Addr) (nh hc cb : Nat) (cfg : Array Value) (L : List Asr) : List Asr :=
  m5A mb X.en.al ds i :: slA 45 2 (.slice ha nh hc) nh (flatHd X.hs) :: blkA cb cfg 27 :: L
def LoopWl (w0 : World) (L : List Asr) (b mb cb n top : Nat) (cfg : Array Value) (rs : List Int) (ds : List DescV) (X0 : WlS) (l : List Int) (p : WoB) (N : Nat) (g : Nat) (v9 v10 : Value) (wr : World) : Prop :=
  ∃ (i nh : Nat) (X : WlS) (ha : Option Addr) (hc : Nat), g + i = N ∧ v10 = .int .i64 (i : Nat) ∧ v9 = .slice ha nh hc ∧ X = wlRun (ds.map DescV.kd) X0 (l.take i) ∧ X.hs.length = nh ∧ WlI (ds.map DescV.kd) X i ∧ St w0 wr (woL b (wlW X rs n top) p ++ wlR mb X ds i ha nh hc cb cfg L)
def wlX0 (n top : Nat) (ds : List DescV) (f0 : Nat → VV) : WlS := ⟨⟨newAl n top, ds.map (DescV.new f0)⟩, []⟩
theorem wlX0_I {n top : Nat} (h1 : 1 ≤ n) (h2 : n ≤ 64) (h3 : 1 ≤ top) (h4 : top < 4294967296) {ds : List DescV} (hds : ∀ d, d ∈ ds → d.Ok) (hdl : ds.length ≤ 64) (f0 : Nat → VV) : WlI (ds.map DescV.kd) (wlX0 n top ds f0) 0 := by
  refine ⟨⟨0, newAl_rel h1 h2 h3 h4⟩, Nat.le_refl _, ⟨newAl_ok h1 h2 h3 h4, fun s hs => ?_, by show (ds.map _).length ≤ 64; rw [List.length_map]; exact hdl⟩, ?_, fun h hh => (by cases hh), Nat.le_refl _⟩
  · obtain ⟨d, hd, rfl⟩ := List.mem_map.1 hs
    exact newSl_ok (hds d hd)
  · unfold EnS.kinds wlX0
    rw [List.map_map]
    rfl
theorem and1_eq (n : Nat) : bits .and .i64 ((n : Int) / 8) 1 = ((n / 8 % 2 : Nat) : Int) := by
  rw [and_mask ((n : Int) / 8) 1 1 (by decide) rfl]
  omega
theorem and28_eq (x : Int) : bits .and .i64 x 268435455 = (and28 x : Int) ∧ and28 x < 268435456 := by
  rw [and_mask x 28 268435455 (by decide) rfl]
  unfold and28
  omega
def RetWl (w0 : World) (L : List Asr) (n top : Nat) (rs : List Int) (ds : List DescV) (X0 : WlS) (l : List Int) (e : Ending) (w' : World) : Prop :=
  ∃ (b mb : Nat) (p : WoB), e = .returned (.tuple #[ptr b, ptr mb]) ∧ St w0 w' (woL b (wlW (wlRun (ds.map DescV.kd) X0 (l.take 60)) rs n top) p ++ (m5A mb (wlRun (ds.map DescV.kd) X0 (l.take 60)).en.al ds 60 :: L)) ∧ WlI (ds.map DescV.kd) (wlRun (ds.map DescV.kd) X0 (l.take 60)) 60
theorem app3 (P L : List Asr) (a b c : Asr) : P ++ (a :: b :: c :: L) = (P ++ [a, b, c]) ++ L := by simp
set_option maxRecDepth 100000 in
set_option maxHeartbeats 4000000 in
theorem law_worldOf {w0 w : World} {L : List Asr} (H : St w0 w L) (hT : Tab w0) (n top : Nat) (h1 : 1 ≤ n) (h2 : n ≤ 64) (h3 : 1 ≤ top) (h4 : top < 4294967296) (ds : List DescV) (hds : ∀ d, d ∈ ds → d.Ok) (hdl : ds.length ≤ 8) (v : Value) (hv : ReadIn w0 L v ds.length (flatDesc ds)) (rs : List Int) (hrl : rs.length ≤ 32) (vr : Value) (hr : ReadIn w0 L vr rs.length (i64s rs)) (l : List Int) (vl : Value) (hl : ReadIn w0 L vl l.length (ints l)) (f0 : Nat → VV) :
    Calls Tryz.prog 12 #[.agg #[.int .i64 (n : Nat), .int .i64 (top : Nat), v, vr], vl] w (RetWl w0 L n top rs ds (wlX0 n top ds f0) l) := by
  obtain ⟨S0, hr0⟩ := hv w [] H
  obtain ⟨va, vc, rfl, _, _, _, _⟩ := id hr0
  obtain ⟨S1, hr1⟩ := hr w [] H
  obtain ⟨ra, rc, rfl, _, _, _, _⟩ := id hr1
  obtain ⟨S2, hr2⟩ := hl w [] H
  obtain ⟨la, lc, rfl, hle, hmax, _, _⟩ := id hr2
  have HB := H.box0 #[.int .i64 (n : Nat), .int .i64 (top : Nat), .slice va ds.length vc, .slice ra rs.length rc] 27
  obtain ⟨cb, hcb⟩ : ∃ cb, w.heap.size = cb := ⟨_, rfl⟩
  obtain ⟨wa, hwa⟩ : ∃ wa, w.alloc (.cells #[.int .i64 (n : Nat), .int .i64 (top : Nat), .slice va ds.length vc, .slice ra rs.length rc] 27) = wa := ⟨_, rfl⟩
  rw [hwa, hcb] at HB
  have HW := Lib.hid (wo_new HB n top h1 h2 h3 h4 ds hds (by omega) _ hv.cons f0 rs _ hr.cons)
  have HM5 := Lib.hid (fun (w' : World) (P : List Asr) (h : St w0 w' (P ++ L)) => m5_new h n top h1 h2 h3 h4 ds (by omega) (.slice va ds.length vc) (fun w2 M h2 => hv w2 (M ++ P) (by rw [List.append_assoc]; exact h2)) rs hrl (.slice ra rs.length rc) (fun w2 M h2 => hr w2 (M ++ P) (by rw [List.append_assoc]; exact h2)))
  have HI0 := Lib.hid (wlX0_I h1 h2 h3 h4 hds (by omega) f0)
  have HT := Lib.hid hT
  have HL := Lib.hid hl
  have hvd := hv
  have HRT := Lib.hid (show rs.take 32 = rs from List.take_of_length_le hrl)
  have HBH := Lib.hid HB
  obtain ⟨m, hm⟩ : ∃ m, ds.length = m := ⟨_, rfl⟩
  obtain ⟨r, hrr⟩ : ∃ r, rs.length = r := ⟨_, rfl⟩
  obtain ⟨k, hk⟩ : ∃ k, l.length = k := ⟨_, rfl⟩
  have HM := Lib.hid hm
  have HK := Lib.hid hk
  rw [hm] at hdl HW HM5 HBH hvd
  have HVD := Lib.hid hvd
  rw [hrr] at HW HM5 HBH hrl
  rw [hk] at hle
  have hkk : k ≤ 9223372036854775807 := by unfold maxLen at hmax; omega
  obtain ⟨N, hN⟩ : ∃ N, min k 60 = N := ⟨_, rfl⟩
  have HN := Lib.hid hN
  obtain ⟨cfg, hcfg⟩ : ∃ cfg : Array Value, #[.int .i64 (n : Nat), .int .i64 (top : Nat), .slice va m vc, .slice ra r rc] = cfg := ⟨_, rfl⟩
  have HCF := Lib.hid hcfg
  obtain ⟨X0, hX0⟩ : ∃ X, wlX0 n top ds f0 = X := ⟨_, rfl⟩
  have HX0 := Lib.hid hX0
  rw [hX0] at HI0 ⊢
  rw [hm, hrr] at hwa
  rw [hm, hrr, hk]
  clear H HB hv hvd hr hl hr0 hr1 hr2 hm hrr hk hle hmax hN hcfg hX0 h1 h2 h3 h4 hds hT
  unfold ptr at *
  go_enter Tryz.func12, Tryz.ntmps12
  go_upto_region 1 with fail
  try rw [hwa]
  try rw [hcb]
  clear hwa hcb
  have x0 := (HBH.out.blk 0 rfl).cell 0
  have x1 := (HBH.out.blk 0 rfl).cell 1
  have x2 := (HBH.out.blk 0 rfl).cell 2
  have x3 := (HBH.out.blk 0 rfl).cell 3
  simp at x0 x1 x2 x3
  go_upto_region 5 with (first
    | (go_at_call 32; refine HW.out.mono ?_; rintro e w1 ⟨b, rfl, h1⟩; obtain ⟨p, h2⟩ := h1.first.exTop; have H1 := Lib.hid h2; clear h1 h2 HW x0 x1 x2 x3; have hcb1 := (H1.out.comm.blk 0 rfl); have x0 := hcb1.cell 0; have x1 := hcb1.cell 1; have x2 := hcb1.cell 2; have x3 := hcb1.cell 3; simp at x0 x1 x2 x3; clear hcb1)
    | (go_at_call 42; refine (HM5.out w1 (woL b (newWo n top ds f0 rs) p ++ [blkA cb _ _]) (by rw [List.append_assoc]; exact H1.out)).mono ?_; rintro e w2 ⟨mb, rfl, h3⟩; rw [List.append_assoc] at h3; have h4 := St.toMid (P := woL b (newWo n top ds f0 rs) p) h3; have H2 := Lib.hid h4; clear h3 h4 x0 x1 x2 x3 HM5 H1))
  have HS := Lib.hid (show St w0 w2 (woL b (wlW X0 rs n top) p ++ wlR mb X0 ds 0 none 0 0 cb cfg L) by
    have h := H2.out
    have e : newWo n top ds f0 rs = wlW X0 rs n top := by
      rw [← HX0.out]
      unfold newWo wlW wlX0
      rw [HRT.out]
    have e2 : newAl n top = X0.en.al := by rw [← HX0.out]; rfl
    have e3 : flatHd X0.hs = [] := by rw [← HX0.out]; rfl
    rw [e, e2, HCF.out] at h
    unfold wlR
    rw [e3]
    exact St.toMidB (P := woL b (wlW X0 rs n top) p) (h.add (Keep.refl _ _) (A := slA 45 2 (.slice none 0 0) 0 []) (Own.nil _ _ _ _)).first)
  clear H2 HX0 HRT HBH
  go_wp2_with fail
  go_loopg [9, 10] N (fun g v9 v10 wr => LoopWl w0 L b mb cb n top cfg rs ds X0 l p N g v9 v10 wr)
  case atStart => exact ⟨0, 0, X0, none, 0, by omega, rfl, rfl, rfl, by rw [List.length_eq_zero_iff]; exact List.eq_nil_of_length_eq_zero (Nat.le_zero.1 HI0.out.len), HI0.out, HS.out⟩
  case round =>
    obtain ⟨i, nh, X, ha, hc, hg, rfl, rfl, hX, hnh, hI, hst⟩ := hrel
    clear HS
    have HG := Lib.hid hg
    have HX := Lib.hid hX
    have HNH := Lib.hid hnh
    have HI := Lib.hid hI
    have HST := Lib.hid hst
    have hiN : i ≤ N := by omega
    have hN60 : N ≤ 60 := by have := HN.out; omega
    have hnh60 : nh ≤ i := by rw [← hnh]; exact hI.len
    by_cases hlt : i < N
    · have hik : i < k := by have := HN.out; omega
      obtain ⟨x0, hx0⟩ : ∃ x, l[i]? = some x := ⟨_, List.getElem?_eq_getElem (by rw [HK.out]; exact hik)⟩
      have hml := hst
      unfold wlR at hml
      rw [app3] at hml
      obtain ⟨S3, hr3⟩ := HL.out wr _ hml
      obtain ⟨bo, oo, ⟨cc, hv3⟩, _, c0⟩ := hr3.int hx0
      simp only [Value.slice.injEq, true_and] at hv3
      have ela := hv3.1
      clear hv3
      subst ela
      obtain ⟨hy, hy2⟩ := and28_eq x0
      have HStep := Lib.hid (show wlRun (ds.map DescV.kd) X0 (l.take (i + 1)) = wlStep (ds.map DescV.kd) X (and28 x0) by
        unfold wlRun
        rw [List.take_add_one, hx0, List.foldl_append, hX]
        rfl)
      obtain ⟨y, hyy⟩ : ∃ y, and28 x0 = y := ⟨_, rfl⟩
      rw [hyy] at hy hy2 HStep
      have e0 : decide ((i : Int) < (k : Int)) = true := decide_eq_true (by omega)
      have e1 : decide ((i : Int) < 60) = true := decide_eq_true (by omega)
      have e3 : decide (i < 60) = true := decide_eq_true (by omega)
      have e2 : decide (k ≤ i) = false := decide_eq_false (by omega)
      have HLT := Lib.hid hlt
      have hi60 : i < 60 := by omega
      clear hx0 hml hr3 hyy hX hnh hI hst hg hlt
      go_upto_block 2 with fail
      clear hy c0
      obtain ⟨r8, hr8⟩ : ∃ r, y % 8 = r := ⟨_, rfl⟩
      have hq8 : (y : Int) % 8 = (r8 : Int) := by omega
      have HR8 := Lib.hid hr8
      clear hr8
      go_upto_region 10 with fail
      go_cut [48] (fun v48 wc => v48 = .bool (decide (r8 < 3 ∨ nh = 0)) ∧ wc = wr)
      case first =>
        by_cases h3 : r8 < 3
        · have f0 : decide ((r8 : Int) < 3) = true := decide_eq_true (by omega)
          have f1 : decide (r8 < 3) = true := decide_eq_true h3
          go_wp2_with fail
          go_meet
          case rel => exact ⟨by rw [decide_eq_true (Or.inl h3)], rfl⟩
        · have f0 : decide ((r8 : Int) < 3) = false := decide_eq_false (by omega)
          have f1 : decide (r8 < 3) = false := decide_eq_false h3
          by_cases h0 : nh = 0
          · have f2 : ((nh : Int) == 0) = true := by simp [h0]
            have H0 := Lib.hid h0
            clear h0
            go_wp2_with fail
            go_meet
            case rel => exact ⟨by rw [decide_eq_true (Or.inr H0.out)], rfl⟩
          · have f2 : ((nh : Int) == 0) = false := by simp; omega
            go_wp2_with fail
            go_meet
            case rel => exact ⟨by rw [decide_eq_false (by omega)], rfl⟩
      case rest =>
        obtain ⟨rfl, rfl⟩ := hcut
        by_cases hcr : r8 < 3 ∨ nh = 0
        · rw [decide_eq_true hcr]
          have HStep2 := Lib.hid (show wlStep (ds.map DescV.kd) X y = X.made by
            unfold wlStep
            rw [if_pos (by rw [HR8.out, HNH.out]; exact hcr)])
          clear hq8 hcr
          rcases firstW_cases' X.en.al.free with he | ⟨kk, he⟩
          · have HSt := Lib.hid (show X.made = X by unfold WlS.made; rw [if_pos he])
            have HC5 := Lib.hid (m5A_create_no HST.out.ofMid he)
            have HCw := Lib.hid (fun (w' : World) (R' : List Asr) (h : St w0 w' (woL b (wlW X rs n top) p ++ R')) => wo_create_no h HT.out HI.out.ok.al he)
            obtain ⟨er, her⟩ : ∃ er, (wlW X rs n top).en.al.noE = er := ⟨_, rfl⟩
            have her0 : ((er : Int) == 0) = false := by
              have : er = 7 ∨ er = 6 := by
                rw [← her]
                unfold AlS.noE
                split
                · exact .inl rfl
                · exact .inr rfl
              simp
              omega
            rw [her] at HCw
            clear he her
            unfold ptr at HC5 HCw
            go_wp2_with (first
              | (go_at_call 43; refine HC5.out.mono ?_; rintro e w3 ⟨er5, he, hk3⟩; unfold hdV at he; subst he; have H3 := Lib.hid ((HST.out.keep hk3).alloc (.cells #[.int .i64 0, .int .i64 0] 45)); clear hk3 HC5)
              | (go_at_call 14; refine (HCw.out _ _ H3.out).mono ?_; unfold hdV; rintro e w4 ⟨rfl, hk4⟩; have H4 := Lib.hid ((H3.out.keep hk4).alloc (.cells #[.int .i64 0, .int .i64 0] 45)); clear hk4 HCw H3))
            go_roundg (N - (i + 1))
            case measure => have := HG.out; have := HLT.out; omega
            case rel => exact ⟨i + 1, nh, X, ha, hc, by have := HG.out; have := HLT.out; omega, by go_num, rfl, by rw [HStep.out, HStep2.out, HSt.out], HNH.out, HI.out.up (Nat.le_succ _), by have h := St.toMid (P := woL b (wlW X rs n top) p) (m5A_mono H4.out.ofMid (Nat.le_succ i)); exact h⟩
          · obtain ⟨en2, hen2⟩ : ∃ e2, X.en.withA (X.en.al.made kk) = e2 := ⟨_, rfl⟩
            have hkf := firstW_free he
            have hkl := HI.out.ok.al.free kk hkf
            have HMade := Lib.hid (show X.made = ⟨en2, X.hs ++ [⟨(kk : Nat), (X.en.al.gen kk + 1 : Nat)⟩]⟩ by
              unfold WlS.made
              rw [if_neg (by omega), he, Int.toNat_natCast, hen2])
            have HC5 := Lib.hid (m5A_create HST.out.ofMid kk he)
            have HCw := Lib.hid (fun (w' : World) (R' : List Asr) (h : St w0 w' (woL b (wlW X rs n top) p ++ R')) => wo_create h HT.out HI.out.ok.al kk he)
            have hg : (wlW X rs n top).en.al.gen kk = X.en.al.gen kk := rfl
            rw [hg] at HCw
            rw [show X.en.al.made kk = en2.al by rw [← hen2]; rfl] at HC5
            rw [show (wlW X rs n top).withE ((wlW X rs n top).en.withA ((wlW X rs n top).en.al.made kk)) = ⟨en2, rs, [], n, top⟩ by rw [← hen2]; rfl] at HCw
            obtain ⟨gz, hgz⟩ : ∃ g : Int, ((X.en.al.gen kk + 1 : Nat) : Int) = g := ⟨_, rfl⟩
            obtain ⟨kz, hkz⟩ : ∃ z : Int, (kk : Int) = z := ⟨_, rfl⟩
            rw [hgz, hkz] at HC5 HCw HMade
            clear he hen2 hkf hkl hg hgz hkz
            unfold ptr hdV at HC5 HCw
            go_upto_region 14 with (first
              | (go_at_call 43; refine HC5.out.mono ?_; rintro e w3 ⟨rfl, h3⟩; have H3 := Lib.hid (h3.box0 #[.int .i64 kz, .int .i64 gz] 45); clear h3 HC5)
              | (go_at_call 14; refine (HCw.out _ _ (St.rot2 H3.out)).mono ?_; rintro e w4 ⟨rfl, h4⟩; have H4 := Lib.hid ((St.unrot2 h4).box0 #[.int .i64 kz, .int .i64 gz] 45); clear h4 HCw H3))
            obtain ⟨hb, hhb⟩ : ∃ hb, w3.heap.size = hb := ⟨_, rfl⟩
            obtain ⟨w5, hw5⟩ : ∃ w5, w4.alloc (.cells #[.int .i64 kz, .int .i64 gz] 45) = w5 := ⟨_, rfl⟩
            rw [hhb, hw5] at H4
            rw [hhb, hw5]
            clear hhb hw5
            obtain ⟨z0, z1, _, _⟩ := (H4.out.blk 1 (b := hb) (cs := #[.int .i64 kz, .int .i64 gz]) (t := 45) rfl).two
            have h5 := St.ofMid (P := [blkA w4.heap.size #[.int .i64 kz, .int .i64 gz] 45, blkA hb #[.int .i64 kz, .int .i64 gz] 45, m5A mb en2.al ds i] ++ woL b ⟨en2, rs, [], n, top⟩ p) (R := blkA cb cfg 27 :: L) (A := slA 45 2 (.slice ha nh hc) nh (flatHd X.hs)) H4.out
            obtain ⟨G, hown, _, hup, _⟩ := h5.opens 0 rfl
            have HOwn := Lib.hid (show Own G w5 45 2 (.slice ha nh hc) nh (flatHd X.hs) from hown)
            have HUP := Lib.hid hup
            clear hown hup h5 H4
            go_wp2_with (at_builtin; go_loud (refine wpList_app (P := Tryz.prog) slHd rfl _ _ rfl (S := G) (S2 := fun z => z = w5.heap.size) (n := nh) (xs := flatHd X.hs) (m := 1) (news := [.int .i64 kz, .int .i64 gz]) rfl rfl ?_ (Own.lit (S := fun z => z = w5.heap.size) w5 45 2 1 #[.int .i64 kz, .int .i64 gz] (by decide) rfl rfl).rd rfl (by intro u hu; simp at hu; rcases hu with rfl | rfl <;> rfl) (by omega) (by unfold maxLen; omega) ?_; (· exact HOwn.out.keep (T := Nope) ((Keep.refl w5 Nope).alloc _) (fun _ _ f => f)); rintro a' k' c' w6 happ; obtain ⟨z1, z2⟩ := app_up (wr := w5) ((Keep.refl w5 Nope).alloc _) happ; obtain rfl := happ.num; have h6 := HUP.out w6 _ z1 z2; rw [hd5_snoc] at h6; have H6 := Lib.hid h6; clear happ z1 z2 h6 HOwn HUP))
            have HF := Lib.hid (show St w0 w6 (woL b (wlW X.made rs n top) p ++ wlR mb X.made ds (i + 1) a' (nh + 1) c' cb cfg L) by
              have h7 := H6.out
              rw [HMade.out]
              have h8 := St.sel (P := [_, _, _, _]) (P' := [slA 45 2 (.slice a' (nh + 1) c') (nh + 1) (flatHd (X.hs ++ [⟨kz, gz⟩])), m5A mb en2.al ds i]) (R := woL b ⟨en2, rs, [], n, top⟩ p ++ (blkA cb cfg 27 :: L)) [0, 3] h7 (by decide) rfl rfl
              have h9 := St.wlMk (W := woL b ⟨en2, rs, [], n, top⟩ p) (St.sw (m5A_mono (St.sw h8) (Nat.le_succ i)))
              exact h9)
            have HL2 := Lib.hid (show X.made.hs.length = nh + 1 by rw [HMade.out, List.length_append, HNH.out]; rfl)
            clear H6 z0
            go_roundg (N - (i + 1))
            case measure => have := HG.out; have := HLT.out; omega
            case rel => exact ⟨i + 1, nh + 1, X.made, a', c', by have := HG.out; have := HLT.out; omega, by go_num, rfl, by rw [HStep.out, HStep2.out], HL2.out, HI.out.made, HF.out⟩
        · rw [decide_eq_false hcr]
          have hnh0 : 0 < nh := by omega
          have hr3 : ¬ r8 < 3 := fun h => hcr (.inl h)
          have HNo := Lib.hid (show ¬ (y % 8 < 3 ∨ X.hs.length = 0) by rw [HR8.out, HNH.out]; exact hcr)
          clear hcr
          by_cases h3 : r8 = 3
          · have HStep2 := Lib.hid (show wlStep (ds.map DescV.kd) X y = X.rose by
              unfold wlStep
              rw [if_neg HNo.out, if_pos (by rw [HR8.out]; exact h3)])
            have f3 : ((r8 : Int) == 3) = true := by simp [h3]
            obtain ⟨xs5, p5, hx5, hl5, h5⟩ := HST.out.ofMid.m5Open
            have HC5 := Lib.hid h5.m5C.c0
            have HX5 := Lib.hid hx5
            have HL5 := Lib.hid hl5
            have c0 := HC5.out
            rcases firstW_cases' X.en.al.free with he | ⟨kk, he⟩
            · have HSt := Lib.hid (show X.rose = X by unfold WlS.rose; rw [if_pos he])
              have HR5 := Lib.hid (a5_raise_no h5.m5Al he)
              have HRw := Lib.hid (fun (w' : World) (R' : List Asr) (h : St w0 w' (woL b (wlW X rs n top) p ++ R')) => wo_raise5_no h HT.out HI.out.ok.al he)
              clear h3 hr3 hnh0 he hx5 hl5 h5
              unfold ptr at HR5 HRw
              go_wp2_with (first
                | (go_at_call 44; refine HR5.out.mono ?_; rintro e w3 ⟨er5, he, hk3⟩; unfold hdV at he; subst he; have H3 := Lib.hid (HST.out.keep hk3); clear hk3 HR5 c0; have z0 := H3.out.woC.c0; have z1 := H3.out.woC.e0)
                | (go_at_call 33; refine (HRw.out _ _ H3.out).mono ?_; rintro e w4 ⟨rfl, hk4⟩; have H4 := Lib.hid (H3.out.keep hk4); clear hk4 HRw H3 z0 z1))
              go_roundg (N - (i + 1))
              case measure => have := HG.out; have := HLT.out; omega
              case rel => exact ⟨i + 1, nh, X, ha, hc, by have := HG.out; have := HLT.out; omega, by go_num, rfl, by rw [HStep.out, HStep2.out, HSt.out], HNH.out, HI.out.up (Nat.le_succ _), by have h := St.toMid (P := woL b (wlW X rs n top) p) (m5A_mono H4.out.ofMid (Nat.le_succ i)); exact h⟩
            · obtain ⟨en2, hen2⟩ : ∃ e2, X.en.withA (X.en.al.rose kk) = e2 := ⟨_, rfl⟩
              have HRose := Lib.hid (show X.rose = ⟨en2, X.hs⟩ by
                unfold WlS.rose
                rw [if_neg (by omega), he, Int.toNat_natCast, hen2])
              have HR5 := Lib.hid (a5_raise h5.m5Al kk he)
              have HRw := Lib.hid (fun (w' : World) (R' : List Asr) (h : St w0 w' (woL b (wlW X rs n top) p ++ R')) => wo_raise5 h HT.out HI.out.ok.al kk he)
              have hg : (wlW X rs n top).en.al.gen kk = X.en.al.gen kk := rfl
              rw [hg] at HRw
              rw [show X.en.al.rose kk = en2.al by rw [← hen2]; rfl] at HR5
              rw [show (wlW X rs n top).withE ((wlW X rs n top).en.withA ((wlW X rs n top).en.al.rose kk)) = ⟨en2, rs, [], n, top⟩ by rw [← hen2]; rfl] at HRw
              obtain ⟨gz, hgz⟩ : ∃ g : Int, ((X.en.al.gen kk + 1 : Nat) : Int) = g := ⟨_, rfl⟩
              obtain ⟨kz, hkz⟩ : ∃ z : Int, (kk : Int) = z := ⟨_, rfl⟩
              rw [hgz, hkz] at HR5 HRw
              clear h3 hr3 hnh0 he hx5 hl5 h5 hen2 hg hgz hkz
              unfold ptr hdV at HR5 HRw
              go_wp2_with (first
                | (go_at_call 44; refine HR5.out.mono ?_; rintro e w3 ⟨rfl, h3⟩; have h3' := St.m5Shut HX5.out HL5.out (St.m5Al' h3); have H3 := Lib.hid (St.toMid (P := woL b (wlW X rs n top) p) (m5A_mono h3' (Nat.le_succ i))); clear h3 h3' HR5 c0; have z0 := H3.out.woC.c0; have z1 := H3.out.woC.e0)
                | (go_at_call 33; refine (HRw.out _ _ H3.out).mono ?_; rintro e w4 ⟨rfl, h4⟩; have H4 := Lib.hid h4; clear h4 HRw H3 z0 z1))
              go_roundg (N - (i + 1))
              case measure => have := HG.out; have := HLT.out; omega
              case rel => exact ⟨i + 1, nh, X.rose, ha, hc, by have := HG.out; have := HLT.out; omega, by go_num, rfl, by rw [HStep.out, HStep2.out], by rw [HRose.out]; exact HNH.out, HI.out.rose, by rw [HRose.out]; exact H4.out⟩
          · have f3 : ((r8 : Int) == 3) = false := by simp; omega
            have hb8 := and1_eq y
            obtain ⟨b8, hb⟩ : ∃ b, y / 8 % 2 = b := ⟨_, rfl⟩
            rw [hb] at hb8
            have HB8 := Lib.hid hb
            clear hb
            by_cases h4 : r8 = 4 ∧ b8 = 0
            · obtain ⟨h40, hb0⟩ := h4
              have f4 : ((r8 : Int) == 4) = true := by simp [h40]
              have f5 : ((b8 : Int) == 0) = true := by simp [hb0]
              obtain ⟨q, hq⟩ : ∃ q, y / 16 % nh = q := ⟨_, rfl⟩
              have hql : q < nh := by rw [← hq]; exact Nat.mod_lt _ hnh0
              have hqi : (y : Int) / 16 % (nh : Int) = (q : Int) := by rw [← hq, Int.natCast_emod, Int.natCast_ediv]; rfl
              have hjl : X.hs[q]? = some (X.hs[q]'(by rw [HNH.out]; exact hql)) := List.getElem?_eq_getElem _
              obtain ⟨⟨hi, hgn⟩, hh⟩ : ∃ h, X.hs[q]'(by rw [HNH.out]; exact hql) = h := ⟨_, rfl⟩
              rw [hh] at hjl
              have hpick : X.pick (y / 16) = ⟨hi, hgn⟩ := by
                unfold WlS.pick
                rw [HNH.out, hq, List.getD_eq_getElem?_getD, hjl]
                rfl
              have HStep2 := Lib.hid (show wlStep (ds.map DescV.kd) X y = X.gone ⟨hi, hgn⟩ by
                unfold wlStep
                rw [if_neg HNo.out, if_neg (by rw [HR8.out]; exact h3), if_pos ⟨HR8.out.trans h40, HB8.out.trans hb0⟩, hpick])
              have hst : X.en.al.st hi hgn = 0 ∨ X.en.al.st hi hgn = 1 := (HI.out.hs ⟨hi, hgn⟩ (List.mem_of_getElem? hjl)).st
              obtain ⟨S4, _, hrd, _⟩ := HST.out.ofMidB.rd 0 (e := 45) (size := 2) (n := nh) (v := .slice ha nh hc) (xs := flatHd X.hs) rfl
              obtain ⟨bo2, oo2, hsl, _, hco⟩ := Rd.elem (cells := HdV.cells) (size := 2) (l := X.hs) hrd (fun _ => rfl) (by decide) hjl
              have x0 := hco 0 (by decide)
              have x1 := hco 1 (by decide)
              simp [HdV.cells] at x0 x1
              subst hsl
              have HBB := Lib.hid (HST.out.box0 #[.int .i64 hi, .int .i64 hgn] 45)
              have e5 : decide (nh ≤ q) = false := decide_eq_false (by omega)
              clear hq hjl hh hpick hrd hco h3 hr3 h40 hb0
              go_upto_region 20 with fail
              obtain ⟨hb, hhb⟩ : ∃ hb, wc.heap.size = hb := ⟨_, rfl⟩
              obtain ⟨w3, hw3⟩ : ∃ w3, wc.alloc (.cells #[.int .i64 hi, .int .i64 hgn] 45) = w3 := ⟨_, rfl⟩
              rw [hhb, hw3] at HBB
              rw [hhb, hw3]
              clear hhb hw3 x0 x1 hq8 hqi hb8 f3 f4 f5 hql
              obtain ⟨z0, z1, _, _⟩ := (HBB.out.blk 0 rfl).two
              obtain ⟨X', hX'⟩ : ∃ X', X.gone ⟨hi, hgn⟩ = X' := ⟨_, rfl⟩
              have HXI := Lib.hid (show WlI (ds.map DescV.kd) X' (i + 1) by rw [← hX']; exact HI.out.gone _)
              have HXH := Lib.hid (show X'.hs = X.hs by
                rw [← hX']
                unfold WlS.gone
                split <;> rfl)
              have HBoth := Lib.hid (show (∀ (w' : World) (R' : List Asr), St w0 w' (m5A mb X.en.al ds i :: R') → Calls Tryz.prog 45 #[ptr mb, hdV hi hgn] w' (Ret5A w0 R' mb X'.en.al ds (i + 1))) ∧ (∀ (w' : World) (R' : List Asr), St w0 w' (woL b (wlW X rs n top) p ++ R') → Calls Tryz.prog 18 #[ptr b, hdV hi hgn] w' (fun e w2 => ∃ u, e = .returned u ∧ St w0 w2 (woL b (wlW X' rs n top) p ++ R'))) by
                rcases hst with hs | hs
                · have e : X' = X := by
                    rw [← hX']
                    unfold WlS.gone
                    rw [if_neg (by show ¬ X.en.al.st hi hgn = 1; rw [hs]; decide)]
                  rw [e]
                  refine ⟨fun w' R' h => m5A_delete_gone h hi hgn hs, fun w' R' h => (wo_delete_gone h HI.out.ok.al hi hgn hs).mono ?_⟩
                  rintro en w2 ⟨rfl, hk2⟩
                  exact ⟨_, rfl, h.keep hk2⟩
                · obtain ⟨kk, hik, hkl, hgk, hlv⟩ := AlS.st_live hs
                  have h64 := HI.out.ok.al.len
                  have e : X' = ⟨X.en.del kk, X.hs⟩ := by
                    rw [← hX']
                    unfold WlS.gone
                    rw [if_pos hs]
                    show (⟨X.en.del hi.toNat, X.hs⟩ : WlS) = _
                    rw [hik, Int.toNat_natCast]
                  rw [e, hik, ← hgk]
                  rw [hik, ← hgk] at hs
                  have hret := HI.out.ret
                  refine ⟨fun w' R' h => m5A_delete h (by omega) (by have := HM.out; omega) kk (by omega) hs, fun w' R' h => (wo_delete h (HI.out.ok.le (by omega)) (by show X.en.al.ret ≤ _; omega) kk hs).mono ?_⟩
                  rintro en w2 ⟨rfl, h2⟩
                  exact ⟨_, rfl, h2⟩)
              obtain ⟨hb5, hbw⟩ := HBoth.out
              have HB5 := Lib.hid hb5
              have HBW := Lib.hid hbw
              clear HBoth hb5 hbw hst
              unfold ptr hdV at HB5 HBW
              go_wp2_with (first
                | (go_at_call 45; refine (HB5.out _ _ (St.ofMid (P := blkA hb #[.int .i64 hi, .int .i64 hgn] 45 :: woL b (wlW X rs n top) p) HBB.out)).mono ?_; rintro e w4 ⟨u4, rfl, h4⟩; have H4 := Lib.hid (St.toMid (P := blkA hb #[.int .i64 hi, .int .i64 hgn] 45 :: woL b (wlW X rs n top) p) h4); clear h4 HB5 HBB z0 z1; obtain ⟨z0, z1, _, _⟩ := (H4.out.blk 0 (b := hb) (cs := #[.int .i64 hi, .int .i64 hgn]) (t := 45) rfl).two)
                | (go_at_call 18; refine (HBW.out _ _ (St.rot1 (X := woL b (wlW X rs n top) p) H4.out)).mono ?_; rintro e w5 ⟨u5, rfl, h5⟩; have H5 := Lib.hid (St.unrot1 (X := woL b (wlW X' rs n top) p) h5).rest; clear h5 HBW H4))
              go_roundg (N - (i + 1))
              case measure => have := HG.out; have := HLT.out; omega
              case rel => exact ⟨i + 1, nh, X', _, hc, by have := HG.out; have := HLT.out; omega, by go_num, rfl, by rw [HStep.out, HStep2.out, hX'], by rw [HXH.out]; exact HNH.out, HXI.out, by unfold wlR; rw [HXH.out]; exact H5.out⟩
            · have hne : ¬ (y % 8 = 4 ∧ y / 8 % 2 = 0) := by rw [HR8.out, HB8.out]; exact h4
              have HNe := Lib.hid hne
              have H3 := Lib.hid (show ¬ y % 8 = 3 by rw [HR8.out]; exact h3)
              clear hne
              go_upto_region 18 with fail
              go_cut [92] (fun v92 z => v92 = .bool false ∧ z = wc)
              case first =>
                by_cases h40 : r8 = 4
                · have f4 : ((r8 : Int) == 4) = true := by simp [h40]
                  have f5 : ((b8 : Int) == 0) = false := by simp; omega
                  clear h40 h4
                  go_wp2_with fail
                  go_meet
                  case rel => exact ⟨rfl, rfl⟩
                · have f4 : ((r8 : Int) == 4) = false := by simp; omega
                  clear h40 h4
                  go_wp2_with fail
                  go_meet
                  case rel => exact ⟨rfl, rfl⟩
              case rest =>
                obtain ⟨rfl, rfl⟩ := hcut
                clear hq8 f3 hb8 h4 h3 hr3
                have c2 := (HST.out.ofMidC.blk 0 rfl).cell 2
                rw [← HCF.out] at c2
                simp at c2
                have HC2 := Lib.hid c2
                by_cases hm0 : m = 0
                · have f6 : decide ((m : Int) > 0) = false := decide_eq_false (by omega)
                  have f7 : decide (0 < m) = false := decide_eq_false (by omega)
                  have HStep2 := Lib.hid (show wlStep (ds.map DescV.kd) X y = X by
                    unfold wlStep
                    rw [if_neg HNo.out, if_neg H3.out, if_neg HNe.out, if_pos (by rw [List.length_map, HM.out]; exact hm0)])
                  clear hm0
                  go_wp2_with fail
                  go_roundg (N - (i + 1))
                  case measure => have := HG.out; have := HLT.out; omega
                  case rel => exact ⟨i + 1, nh, X, ha, hc, by have := HG.out; have := HLT.out; omega, by go_num, rfl, by rw [HStep.out, HStep2.out], HNH.out, HI.out.up (Nat.le_succ _), by have h := St.toMid (P := woL b (wlW X rs n top) p) (m5A_mono HST.out.ofMid (Nat.le_succ i)); exact h⟩
                · have f6 : decide ((m : Int) > 0) = true := decide_eq_true (by omega)
                  have f7 : decide (0 < m) = true := decide_eq_true (by omega)
                  have hmp : 0 < m := by omega
                  obtain ⟨y1, hy1⟩ : ∃ z, y / 16 % 256 = z := ⟨_, rfl⟩
                  have a1 : bits .and .i64 ((y : Int) / 16) 255 = (y1 : Int) := by
                    rw [and_mask ((y : Int) / 16) 8 255 (by decide) rfl]
                    omega
                  obtain ⟨q, hq⟩ : ∃ q, y1 % nh = q := ⟨_, rfl⟩
                  have hql : q < nh := by rw [← hq]; exact Nat.mod_lt _ hnh0
                  have hqi : (y1 : Int) % (nh : Int) = (q : Int) := by rw [← hq, Int.natCast_emod]
                  obtain ⟨c, hcq⟩ : ∃ c, y / 4096 % m = c := ⟨_, rfl⟩
                  have hcm : c < m := by rw [← hcq]; exact Nat.mod_lt _ hmp
                  have hci : (y : Int) / 4096 % (m : Int) = (c : Int) := by rw [← hcq, Int.natCast_emod, Int.natCast_ediv]; rfl
                  obtain ⟨d, hd⟩ : ∃ d, ds[c]? = some d := ⟨_, List.getElem?_eq_getElem (by rw [HM.out]; exact hcm)⟩
                  have hjl : X.hs[q]? = some (X.hs[q]'(by rw [HNH.out]; exact hql)) := List.getElem?_eq_getElem _
                  obtain ⟨⟨hi, hgn⟩, hh⟩ : ∃ h, X.hs[q]'(by rw [HNH.out]; exact hql) = h := ⟨_, rfl⟩
                  rw [hh] at hjl
                  have hpick : X.pick (y / 16 % 256) = ⟨hi, hgn⟩ := by
                    unfold WlS.pick
                    rw [HNH.out, hy1, hq, List.getD_eq_getElem?_getD, hjl]
                    rfl
                  have hkd : (ds.map DescV.kd).getD c 0 = d.kd := by
                    rw [List.getD_eq_getElem?_getD, List.getElem?_map, hd]
                    rfl
                  have hks : (ds.map DescV.kd)[c]? = some d.kd := by rw [List.getElem?_map, hd]; rfl
                  have hdk : d.kd = 1 ∨ d.kd = 2 ∨ d.kd = 3 := by
                    obtain ⟨s, hs1, hs2⟩ := EnS.kind_at (e := X.en) (c := c) (kd := d.kd) (by rw [HI.out.kinds]; exact hks)
                    rw [← hs2]
                    exact (HI.out.ok.sl s (List.mem_of_getElem? hs1)).kind
                  obtain ⟨A1, hA1⟩ : ∃ z, y / 32 % 16 = z := ⟨_, rfl⟩
                  obtain ⟨B1, hB1⟩ : ∃ z, y / 512 % 8 = z := ⟨_, rfl⟩
                  have a2 : bits .and .i64 ((y : Int) / 32) 15 = (A1 : Int) := by
                    rw [and_mask ((y : Int) / 32) 4 15 (by decide) rfl]
                    omega
                  have a3 : bits .and .i64 ((y : Int) / 512) 7 = (B1 : Int) := by
                    rw [and_mask ((y : Int) / 512) 3 7 (by decide) rfl]
                    omega
                  have hA16 : A1 < 16 := by omega
                  obtain ⟨az, haz⟩ : ∃ z : Int, (A1 : Int) - 7 = z := ⟨_, rfl⟩
                  have HLV := Lib.hid (law_value d.kd hdk az (B1 : Int))
                  have hvok := lawV_ok hdk az (B1 : Int)
                  have hvk := lawV_k hdk az (B1 : Int)
                  obtain ⟨u, hu⟩ : ∃ u, lawV d.kd az (B1 : Int) = u := ⟨_, rfl⟩
                  rw [hu] at HLV hvok hvk
                  have HStep2 := Lib.hid (show wlStep (ds.map DescV.kd) X y = X.put ⟨hi, hgn⟩ c u by
                    unfold wlStep
                    rw [if_neg HNo.out, if_neg H3.out, if_neg HNe.out, if_neg (by rw [List.length_map, HM.out]; omega), hpick, List.length_map, HM.out, hcq, hkd, hA1, hB1, haz, hu])
                  have hst : X.en.al.st hi hgn = 0 ∨ X.en.al.st hi hgn = 1 := (HI.out.hs ⟨hi, hgn⟩ (List.mem_of_getElem? hjl)).st
                  obtain ⟨S4, _, hrd, _⟩ := HST.out.ofMidB.rd 0 (e := 45) (size := 2) (n := nh) (v := .slice ha nh hc) (xs := flatHd X.hs) rfl
                  obtain ⟨bo2, oo2, hsl, _, hco⟩ := Rd.elem (cells := HdV.cells) (size := 2) (l := X.hs) hrd (fun _ => rfl) (by decide) hjl
                  have x0 := hco 0 (by decide)
                  have x1 := hco 1 (by decide)
                  simp [HdV.cells] at x0 x1
                  subst hsl
                  have HBB := Lib.hid (HST.out.box0 #[.int .i64 hi, .int .i64 hgn] 45).drew
                  have e5 : decide (nh ≤ q) = false := decide_eq_false (by omega)
                  have e6 : decide (m ≤ c) = false := decide_eq_false (by omega)
                  obtain ⟨X', hX'⟩ : ∃ X', X.put ⟨hi, hgn⟩ c u = X' := ⟨_, rfl⟩
                  have HXI := Lib.hid (show WlI (ds.map DescV.kd) X' (i + 1) by rw [← hX']; exact HI.out.put _ _ _)
                  have HXH := Lib.hid (show X'.hs = X.hs by
                    rw [← hX']
                    unfold WlS.put
                    split <;> rfl)
                  have HBoth := Lib.hid (show (∀ (w' : World) (R' : List Asr), St w0 w' (m5A mb X.en.al ds i :: R') → Calls Tryz.prog 46 #[ptr mb, hdV hi hgn, .int .i64 (c : Nat), u.val] w' (Ret5A w0 R' mb X'.en.al ds (i + 1))) ∧ (∀ (w' : World) (R' : List Asr), St w0 w' (woL b (wlW X rs n top) p ++ R') → Calls Tryz.prog 15 #[ptr b, hdV hi hgn, .int .i64 (c : Nat), u.val] w' (fun e w2 => ∃ u, e = .returned u ∧ St w0 w2 (woL b (wlW X' rs n top) p ++ R'))) by
                    rcases hst with hs | hs
                    · have e : X' = X := by
                        rw [← hX']
                        unfold WlS.put
                        rw [if_neg (by show ¬ X.en.al.st hi hgn = 1; rw [hs]; decide)]
                      rw [e]
                      refine ⟨fun w' R' h => m5A_insert_gone h hi hgn (c : Nat) hs u, fun w' R' h => (wo_insert_gone h HI.out.ok.al hi hgn (c : Nat) hs u).mono ?_⟩
                      rintro en w2 ⟨rfl, hk2⟩
                      exact ⟨_, rfl, h.keep hk2⟩
                    · obtain ⟨kk, hik, hkl, hgk, hlv⟩ := AlS.st_live hs
                      have h64 := HI.out.ok.al.len
                      have e : X' = ⟨X.en.ins kk c u, X.hs⟩ := by
                        rw [← hX']
                        unfold WlS.put
                        rw [if_pos hs]
                        show (⟨X.en.ins hi.toNat c u, X.hs⟩ : WlS) = _
                        rw [hik, Int.toNat_natCast]
                      rw [e, hik]
                      rw [hik] at hs
                      obtain ⟨s, hs1, hs2⟩ := EnS.kind_at (e := X.en) (c := c) (kd := d.kd) (by rw [HI.out.kinds]; exact hks)
                      refine ⟨fun w' R' h => m5A_insert h (by omega) (by have := HM.out; omega) hd kk (by omega) hgn hs u hvok hvk, fun w' R' h => (wo_insert h (HI.out.ok.le (by omega)) kk hgn hs c s hs1 u hvok (by rw [hvk, hs2])).mono ?_⟩
                      rintro en w2 ⟨rfl, h2⟩
                      exact ⟨_, rfl, h2⟩)
                  obtain ⟨hb5, hbw⟩ := HBoth.out
                  have HB5 := Lib.hid hb5
                  have HBW := Lib.hid hbw
                  have HX2 := Lib.hid hX'
                  have HD := Lib.hid hd
                  have k0 : (q : Int) < (nh : Int) := by omega
                  obtain ⟨⟨vk, va2, vb2⟩, hu2⟩ : ∃ v, u = v := ⟨_, rfl⟩
                  rw [hu2] at HLV HB5 HBW
                  unfold VV.val at HLV HB5 HBW
                  simp only at HLV HB5 HBW
                  unfold ptr hdV at HB5 HBW
                  clear hm0 hq hcq hd hjl hh hpick hkd hks hdk hA1 hB1 hvok hvk hu hst hrd hco hX' HBoth hb5 hbw hy1 hu2
                  go_upto_region 23 with fail
                  have hnz : ¬ nh = 0 := by omega
                  have hmz : ¬ m = 0 := by omega
                  have hqt : (y1 : Int).tmod (nh : Int) = (q : Int) := by rw [Int.tmod_eq_emod_of_nonneg (by omega)]; exact hqi
                  have hct : ((y : Int) / 4096).tmod (m : Int) = (c : Int) := by rw [Int.tmod_eq_emod_of_nonneg (by omega)]; exact hci
                  refine wp_region_M (r := 17) (S := fun w' => w'.cell? ⟨cb, 2, none⟩ = some (.slice va m vc) ∧ w'.cell? ⟨bo2, oo2 + q * 2, none⟩ = some (.int .i64 hi) ∧ w'.cell? ⟨bo2, oo2 + q * 2 + 1, none⟩ = some (.int .i64 hgn)) (by kernel_rfl) ?_ (fun hHeld => ?_)
                  · (try dsimp only); (first | exact ⟨c2, x0, x1⟩ | exact ⟨((Keep.refl _ Nope).alloc _).cell c2 (fun f => f), ((Keep.refl _ Nope).alloc _).cell x0 (fun f => f), ((Keep.refl _ Nope).alloc _).cell x1 (fun f => f)⟩)
                  refine tkP 0 ?_; refine tkP 1 ?_; refine tkP 2 ?_; refine tkP 3 ?_; refine tkP 4 ?_; refine tkP 5 ?_; refine tkP 6 ?_; refine tkP 7 ?_; refine tkH 8 ?_; refine tkP 9 ?_; refine tkP 10 ?_; refine tkP 11 ?_; refine tkH 12 ?_; refine tkP 13 ?_; refine tkP 14 ?_; refine tkC 15 ?_
                  intro K hK
                  go_simp
                  refine hK.out _ _ ?_ (fun hHeld => ?_)
                  · (try dsimp only); (first | exact ⟨c2, x0, x1⟩ | exact ⟨((Keep.refl _ Nope).alloc _).cell c2 (fun f => f), ((Keep.refl _ Nope).alloc _).cell x0 (fun f => f), ((Keep.refl _ Nope).alloc _).cell x1 (fun f => f)⟩)
                  clear hK K
                  refine tkC 16 ?_
                  intro K hK
                  go_simp
                  refine hK.out _ _ ?_ (fun hHeld => ?_)
                  · (try dsimp only); (first | exact ⟨c2, x0, x1⟩ | exact ⟨((Keep.refl _ Nope).alloc _).cell c2 (fun f => f), ((Keep.refl _ Nope).alloc _).cell x0 (fun f => f), ((Keep.refl _ Nope).alloc _).cell x1 (fun f => f)⟩)
                  clear hK K
                  refine tkF 17 ?_
                  intro K hK
                  go_simp
                  refine hK.out _ _ ?_
                  clear hK K
                  refine wpAnyM_done (by kernel_rfl) ?_ _
                  clear hHeld
                  obtain ⟨hb, hhb⟩ : ∃ hb, wc.heap.size = hb := ⟨_, rfl⟩
                  obtain ⟨w3, hw3⟩ : ∃ w3, (wc.alloc (.cells #[.int .i64 hi, .int .i64 hgn] 45)).drew = w3 := ⟨_, rfl⟩
                  rw [hhb, hw3] at HBB
                  rw [hhb, hw3]
                  clear hhb hw3 x0 x1 c2 a1 hqi hci hqt hct hnz k0 hql f6 f7
                  have hbb := HBB.out
                  unfold wlR at hbb
                  rw [app3] at hbb
                  obtain ⟨S5, hr5⟩ := HVD.out w3 (blkA hb #[.int .i64 hi, .int .i64 hgn] 45 :: _) hbb
                  obtain ⟨bo3, oo3, hsl3, _, hco3⟩ := Rd.elem (cells := DescV.cells) (size := 3) (l := ds) hr5 (fun _ => rfl) (by decide) HD.out
                  have d0 : w3.cell? ⟨bo3, oo3 + c * 3, none⟩ = some (.int .i64 (d.kd : Nat)) := hco3 0 (by decide)
                  subst hsl3
                  have c2 : w3.cell? ⟨cb, 2, none⟩ = some (.slice (some ⟨bo3, oo3, none⟩) m vc) := by
                    rw [((St.ofMidC (P := blkA hb #[.int .i64 hi, .int .i64 hgn] 45 :: woL b (wlW X rs n top) p) (R := L) HBB.out).blk 0 rfl).cell, ← HCF.out]
                    rfl
                  clear hbb hr5 hco3
                  go_upto_region 25 with (go_at_call 30; refine (HLV.out _).mono ?_; rintro e w4 ⟨rfl, hk4⟩; have H4 := Lib.hid ((HBB.out.keep hk4).box0 #[.int .i64 vk, .int .i64 va2, .int .i64 vb2] 34); clear hk4 HLV HBB c2 d0)
                  obtain ⟨vb, hvb⟩ : ∃ vb, w4.heap.size = vb := ⟨_, rfl⟩
                  obtain ⟨w5, hw5⟩ : ∃ w5, w4.alloc (.cells #[.int .i64 vk, .int .i64 va2, .int .i64 vb2] 34) = w5 := ⟨_, rfl⟩
                  rw [hvb, hw5] at H4
                  rw [hvb, hw5]
                  clear hvb hw5 a2 a3 haz hA16
                  obtain ⟨v0, v1, v2, _, _, _⟩ := (H4.out.blk 0 rfl).three
                  obtain ⟨z0, z1, _, _⟩ := (H4.out.blk 1 (b := hb) (cs := #[.int .i64 hi, .int .i64 hgn]) (t := 45) rfl).two
                  go_wp2_with (first
                    | (go_at_call 46; refine (HB5.out _ _ (St.ofMid (P := blkA vb #[.int .i64 vk, .int .i64 va2, .int .i64 vb2] 34 :: blkA hb #[.int .i64 hi, .int .i64 hgn] 45 :: woL b (wlW X rs n top) p) H4.out)).mono ?_; rintro e w6 ⟨u6, rfl, h6⟩; have H6 := Lib.hid (St.toMid (P := blkA vb #[.int .i64 vk, .int .i64 va2, .int .i64 vb2] 34 :: blkA hb #[.int .i64 hi, .int .i64 hgn] 45 :: woL b (wlW X rs n top) p) h6); clear h6 HB5 H4 v0 v1 v2 z0 z1; obtain ⟨v0, v1, v2, _, _, _⟩ := (H6.out.blk 0 (b := vb) (cs := #[.int .i64 vk, .int .i64 va2, .int .i64 vb2]) (t := 34) rfl).three; obtain ⟨z0, z1, _, _⟩ := (H6.out.blk 1 (b := hb) (cs := #[.int .i64 hi, .int .i64 hgn]) (t := 45) rfl).two)
                    | (go_at_call 15; refine (HBW.out _ _ (St.rot2 (X := woL b (wlW X rs n top) p) H6.out)).mono ?_; rintro e w7 ⟨u7, rfl, h7⟩; have H7 := Lib.hid (St.unrot2 (X := woL b (wlW X' rs n top) p) h7).rest.rest; clear h7 HBW H6))
                  go_roundg (N - (i + 1))
                  case measure => have := HG.out; have := HLT.out; omega
                  case rel => exact ⟨i + 1, nh, X', _, hc, by have := HG.out; have := HLT.out; omega, by go_num, rfl, by rw [HStep.out, HStep2.out, HX2.out], by rw [HXH.out]; exact HNH.out, HXI.out, by unfold wlR; rw [HXH.out]; exact H7.out⟩
    · have hiN2 : i = N := by omega
      have hns : k ≤ i ∨ (i < k ∧ 60 ≤ i) := by have := HN.out; omega
      have HF := Lib.hid (show RetWl w0 L n top rs ds X0 l (.returned (.tuple #[.pointer (some ⟨b, 0, none⟩), .pointer (some ⟨mb, 0, none⟩)])) wr by
        have htk : l.take i = l.take 60 := by
          rcases hns with h0 | ⟨h0, h1⟩
          · rw [List.take_of_length_le (by rw [HK.out]; exact h0), List.take_of_length_le (by rw [HK.out]; omega)]
          · rw [show i = 60 by omega]
        have hX2 : wlRun (ds.map DescV.kd) X0 (l.take 60) = X := by rw [← htk]; exact HX.out.symm
        refine ⟨b, mb, p, rfl, ?_, by rw [hX2]; exact HI.out.up (by omega)⟩
        rw [hX2]
        have h := HST.out.ofMidB.rest.ofMidB.rest
        exact St.toMid (P := woL b (wlW X rs n top) p) (m5A_mono h.ofMid (by omega)))
      clear hX hnh hI hst hg hlt hiN2
      rcases hns with h0 | ⟨h0, h1⟩
      · have e1 : decide ((i : Int) < (k : Int)) = false := decide_eq_false (by omega)
        go_wp2_with fail
        go_ret2
        exact HF.out
      · have e1 : decide ((i : Int) < (k : Int)) = true := decide_eq_true (by omega)
        have e2 : decide ((i : Int) < 60) = false := decide_eq_false (by omega)
        go_wp2_with fail
        go_ret2
        exact HF.out
end Go.Proofs.YtkiikblpgppmkaaGreatDoor

namespace Go.Proofs.YtkiikblpgppmkaaGreatDoor
open Go Go.RowKit
set_option linter.unusedVariables false
set_option linter.unusedSimpArgs false

def wlN (size : Int) (ds l : List Int) (f0 : Nat → VV) : WlS := wlRun ((lawDs ds).map DescV.kd) (wlX0 (cfgN size + 20) 3 (lawDs ds) f0) (l.take 60)
def RetWorld (w0 : World) (L : List Asr) (size : Int) (ds l : List Int) (f0 : Nat → VV) (e : Ending) (w' : World) : Prop :=
  ∃ (b mb : Nat) (p : WoB), e = .returned (.tuple #[.pointer (some ⟨b, 0, none⟩), .pointer (some ⟨mb, 0, none⟩)]) ∧ St w0 w' (woL b (wlW (wlN size ds l f0) [3, -7] (cfgN size + 20) 3) p ++ (m5A mb (wlN size ds l f0).en.al (lawDs ds) 60 :: L)) ∧ WlI ((lawDs ds).map DescV.kd) (wlN size ds l f0) 60
set_option maxRecDepth 100000 in
set_option maxHeartbeats 2000000 in
theorem law_world {w0 w : World} {L : List Asr} (H : St w0 w L) (hT : Tab w0) (size : Int) (ds : List Int) (vd : Value) (hv : ReadIn w0 L vd ds.length (ints ds)) (l : List Int) (vl : Value) (hl : ReadIn w0 L vl l.length (ints l)) (f0 : Nat → VV) :
    Calls Tryz.prog 28 #[.int .i64 size, vd, vl] w (RetWorld w0 L size ds l f0) := by
  have HC := Lib.hid (law_config H size ds vd hv)
  have hcl := cfgN_le size
  have HW := Lib.hid (fun (w' : World) (cb n c rb : Nat) (a : Option Addr) (hn : (lawDs ds).length = n) (h : St w0 w' (blkA cb #[.int .i64 ((cfgN size + 20 : Nat) : Int), .int .i64 3, .slice a n c, .slice (some ⟨rb, 0, none⟩) 2 2] 27 :: slA 60 3 (.slice a n c) n (flatDesc (lawDs ds)) :: slA 2 1 (.slice (some ⟨rb, 0, none⟩) 2 2) 2 [.int .i64 3, .int .i64 (-7)] :: L)) =>
    law_worldOf h hT (cfgN size + 20) 3 (by omega) (by omega) (by decide) (by decide) (lawDs ds) (lawDs_ok ds) (lawDs_le ds) (.slice a n c) (by rw [hn]; exact ReadIn.own 1 (e := 60) (size := 3) rfl) [3, -7] (by decide) (.slice (some ⟨rb, 0, none⟩) 2 2) (ReadIn.own 2 (e := 2) (size := 1) rfl) l vl hl.cons.cons.cons f0)
  obtain ⟨s, hs⟩ : ∃ s, cfgN size = s := ⟨_, rfl⟩
  have hs2 : ((s : Nat) : Int) + 20 = ((s + 20 : Nat) : Int) := by omega
  obtain ⟨sz, hsz⟩ : ∃ z : Int, ((s + 20 : Nat) : Int) = z := ⟨_, rfl⟩
  have hs14 : s ≤ 14 := by omega
  have enw : IntKind.i64.wrap sz = sz := IntWalk.i64_in _ (by omega)
  unfold RetWorld wlN
  rw [hs] at HW ⊢
  rw [hsz] at HW hs2
  unfold RetCfg at HC
  rw [hs] at HC
  clear H hT hv hl hcl hs hsz
  unfold RetWl at HW
  unfold ptr at HW
  go_enter Tryz.func28, Tryz.ntmps28
  go_upto_region 2 with (go_at_call 34; refine HC.out.mono ?_; rintro e w1 ⟨a, n, c, rb, rfl, hn, h1⟩; have H1 := Lib.hid (h1.box0 #[.int .i64 (s : Nat), .int .i64 3, .slice a n c, .slice (some ⟨rb, 0, none⟩) 2 2] 27); have HN := Lib.hid hn; clear h1 hn HC)
  obtain ⟨cb, hcb⟩ : ∃ cb, w1.heap.size = cb := ⟨_, rfl⟩
  obtain ⟨w2, hw2⟩ : ∃ w2, w1.alloc (.cells #[.int .i64 (s : Nat), .int .i64 3, .slice a n c, .slice (some ⟨rb, 0, none⟩) 2 2] 27) = w2 := ⟨_, rfl⟩
  rw [hcb, hw2] at H1
  rw [hcb, hw2]
  have h3 := H1.out.write 0 rfl 0 (.int .i64 sz)
  have x0 := (H1.out.blk 0 rfl).cell 0
  have y0 := (H1.out.blk 0 rfl).frozen 0
  simp at x0
  clear hcb hw2
  go_upto_region 3 with fail
  obtain ⟨w3, hw3⟩ : ∃ w3, w2.setCell ⟨cb, 0, none⟩ (.int .i64 sz) = w3 := ⟨_, rfl⟩
  rw [hw3] at h3
  try rw [hw3]
  have H3 := Lib.hid h3
  clear hw3 h3 x0 y0 H1 enw hs2
  have x0 := (H3.out.blk 0 rfl).cell 0
  have x1 := (H3.out.blk 0 rfl).cell 1
  have x2 := (H3.out.blk 0 rfl).cell 2
  have x3 := (H3.out.blk 0 rfl).cell 3
  simp at x0 x1 x2 x3
  go_wp2_with (go_at_call 12; refine (HW.out _ cb n c rb a HN.out H3.out).mono ?_; rintro e w4 ⟨b, mb, p, rfl, h4, hI⟩; have H4 := Lib.hid h4.ofMidB.rest.ofMidB.rest.ofMidB.rest; have HI := Lib.hid hI; clear h4 hI HW)
  go_ret2
  exact ⟨b, mb, p, rfl, H4.out, HI.out⟩
end Go.Proofs.YtkiikblpgppmkaaGreatDoor
