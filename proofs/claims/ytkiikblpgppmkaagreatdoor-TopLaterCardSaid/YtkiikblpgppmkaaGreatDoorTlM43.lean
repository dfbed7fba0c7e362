/-
  The walk of TopLater.
-/
import Derived.Test.YtkiikblpgppmkaaGreatDoorTlM34
import Derived.Test.YtkiikblpgppmkaaGreatDoorTlM42
import Derived.Deep.CutBlock
namespace Go.Proofs.YtkiikblpgppmkaaGreatDoor
open Go Go.RowKit
set_option linter.unusedVariables false
set_option linter.unusedSimpArgs false

theorem m5Rest_app (b : Nat) (xs : List (DescV × Nat)) (p : M5B) (R S : List Asr) : m5Rest b xs p R ++ S = m5Rest b xs p (R ++ S) := by
  unfold m5Rest
  simp
/-- Behind In: the row behind. -/
theorem m5In {w0 w : World} {W : List Asr} {b N : Nat} {al : AlS} {ds : List DescV} {xs : List (DescV × Nat)} {p : M5B} {A : Asr} (h1 : xs.map Prod.fst = ds) (h2 : ∀ e, e ∈ xs → e.2 ≤ N) (h : St w0 w (A :: a5A p.ab al :: m5Rest b xs p W)) : St w0 w (W ++ [m5A b al ds N, A]) := by
  have h3 : St w0 w ((a5A p.ab al :: m5Rest b xs p W) ++ [A]) := St.comm (X := [A]) h
  rw [List.cons_append, m5Rest_app] at h3
  have h4 := St.m5Shut h1 h2 (St.m5Al' h3)
  exact St.toMid (P := W) (R := [A]) h4
theorem St.exch {w0 w : World} {A B R : List Asr} (h : St w0 w (B ++ (A ++ R))) : St w0 w (A ++ (B ++ R)) := by
  refine h.pick (fun i => if i < A.length then i + B.length else if i < A.length + B.length then i - A.length else i) (fun i j hi hj e => ?_) (fun i C hi => ?_)
  · split at e <;> split at e <;> (first | omega | (split at e <;> (first | omega | (split at e <;> omega))))
  · by_cases h1 : i < A.length
    · rw [if_pos h1, List.getElem?_append_right (by omega), show i + B.length - B.length = i by omega, List.getElem?_append_left h1]
      rw [List.getElem?_append_left h1] at hi
      exact hi
    · rw [if_neg h1]
      rw [List.getElem?_append_right (by omega)] at hi
      by_cases h2 : i < A.length + B.length
      · rw [if_pos h2, List.getElem?_append_left (by omega)]
        rw [List.getElem?_append_left (by omega)] at hi
        exact hi
      · rw [if_neg h2, List.getElem?_append_right (by omega), List.getElem?_append_right (by omega)]
        rw [List.getElem?_append_right (by omega)] at hi
        rw [show i - B.length - A.length = i - A.length - B.length by omega]
        exact hi
def ltX (E : EnS) (q : List OpV) (n : Nat) : WoS := ⟨E, [3, -7], q, n, 3⟩
theorem and24m (x : Int) : ∃ n : Nat, bits .and .i64 x 16777215 = (n : Int) ∧ n < 16777216 := by
  rw [and_mask x 24 16777215 (by decide) rfl]
  exact ⟨(x % 16777216).toNat, by omega, by omega⟩
def ltR (ma : Nat) (al : AlS) (ds : List DescV) (la : Option Addr) (nl lc : Nat) (lv : List HdV) : List Asr := [m5A ma al ds 60, slA 45 2 (.slice la nl lc) nl (flatHd lv)]
theorem lt_c1 {w0 w : World} {P : List Asr} {ma nl lc : Nat} {al : AlS} {ds : List DescV} {la : Option Addr} {lv : List HdV} (h : St w0 w (P ++ ltR ma al ds la nl lc lv)) : ∃ sa sc, w.cell? ⟨ma, 1, none⟩ = some (.slice sa ds.length sc) := by
  obtain ⟨xs, p, h1, h2, h3⟩ := (St.ofMid h).m5Open
  refine ⟨p.sa, p.sc, ?_⟩
  rw [← h1, List.length_map]
  exact h3.m5C.c1
theorem lt_hd {w0 w : World} {P : List Asr} {ma nl lc : Nat} {al : AlS} {ds : List DescV} {la : Option Addr} {lv : List HdV} (h : St w0 w (P ++ ltR ma al ds la nl lc lv)) {j : Nat} {z : HdV} (hz : lv[j]? = some z) : ∃ bo oo, la = some ⟨bo, oo, none⟩ ∧ w.cell? ⟨bo, oo + j * 2, none⟩ = some (.int .i64 z.i) ∧ w.cell? ⟨bo, oo + j * 2 + 1, none⟩ = some (.int .i64 z.g) := by
  obtain ⟨S4, _, hrd, _⟩ := (St.ofMidB (P := P) h).rd 0 (e := 45) (size := 2) (n := nl) (v := .slice la nl lc) (xs := flatHd lv) rfl
  obtain ⟨bo2, oo2, hsl, _, hco⟩ := Rd.elem (cells := HdV.cells) (size := 2) (l := lv) hrd (fun _ => rfl) (by decide) hz
  exact ⟨bo2, oo2, hsl, hco 0 (by decide), hco 1 (by decide)⟩
theorem lt_hd2 {w0 w : World} {P : List Asr} {ma nl lc bo oo : Nat} {al : AlS} {ds : List DescV} {lv : List HdV} (h : St w0 w (P ++ ltR ma al ds (some ⟨bo, oo, none⟩) nl lc lv)) {j : Nat} {z : HdV} (hz : lv[j]? = some z) : w.cell? ⟨bo, oo + j * 2, none⟩ = some (.int .i64 z.i) ∧ w.cell? ⟨bo, oo + j * 2 + 1, none⟩ = some (.int .i64 z.g) := by
  obtain ⟨b, o, he, h1, h2⟩ := lt_hd h hz
  injection he with he
  injection he with e1 e2
  subst e1 e2
  exact ⟨h1, h2⟩
theorem lt_row {w0 w : World} {P : List Asr} {ma nl lc : Nat} {al : AlS} {ds : List DescV} {la : Option Addr} {lv : List HdV} (h : St w0 w (P ++ ltR ma al ds la nl lc lv)) {c : Nat} {d : DescV} (hd : ds[c]? = some d) : ∃ sa sc g x, sa = some ⟨g, 0, none⟩ ∧ w.cell? ⟨ma, 1, none⟩ = some (.slice sa ds.length sc) ∧ w.cell? ⟨g, c, none⟩ = some (ptr x) ∧ w.cell? ⟨x, 0, none⟩ = some (.int .i64 (d.kd : Nat)) := by
  obtain ⟨xs, p, h1, h2, h3⟩ := (St.ofMid h).m5Open
  have hl := h3.m5Len
  have hcl : c < xs.length := by
    have h4 := (List.getElem?_eq_some_iff.1 hd).1
    rw [← h1, List.length_map] at h4
    exact h4
  obtain ⟨x, hx⟩ : ∃ x, p.bs[c]? = some x := ⟨_, List.getElem?_eq_getElem (by omega)⟩
  obtain ⟨e, he⟩ : ∃ e, xs[c]? = some e := ⟨_, List.getElem?_eq_getElem hcl⟩
  have hed : e.1 = d := by
    rw [← h1, List.getElem?_map, he] at hd
    exact Option.some.inj hd
  obtain ⟨g, hg, hc2⟩ := h3.m5Row hx
  obtain ⟨q, hq, h5⟩ := h3.m5Slot hx he
  refine ⟨p.sa, p.sc, g, x, hg, ?_, hc2, ?_⟩
  · rw [← h1, List.length_map]
    exact h3.m5C.c1
  · rw [(h5.blk 0 rfl).cell, ← hed]
    rfl
theorem ne_value (w : World) (k a b : Int) : (binOp .neq 34 (.agg #[.int .i64 k, .int .i64 a, .int .i64 b]) (.agg #[.int .i64 k, .int .i64 a, .int .i64 b])).run Tryz.prog w = .ok (.bool false) w := by
  simp only [binOp, Op.equal, Op.maxDepth]
  rw [show (10000 : Nat) = 9998 + 2 from rfl]
  simp [go_sem, run_equalIn_struct]
def LoopC (w : World) (ba bb ma n : Nat) (pa pb : WoB) (E X : EnS) (ds : List DescV) (la : Option Addr) (nl lc : Nat) (lv : List HdV) (N : Nat) (g : Nat) (v : Value) (wr : World) : Prop :=
  ∃ i : Nat, g + i = N ∧ v = .int .i64 (i : Nat) ∧ St w wr (woL bb (ltX E [] n) pb ++ (woL ba (ltX E [] n) pa ++ ltR ma X.al ds la nl lc lv))
theorem blk7 {w : World} {b : Nat} {x0 x1 x2 x3 x4 x5 x6 : Value} {t : TypeId} (h : Blk w b #[x0, x1, x2, x3, x4, x5, x6] t) : w.cell? ⟨b, 0, none⟩ = some x0 ∧ w.cell? ⟨b, 1, none⟩ = some x1 ∧ w.cell? ⟨b, 2, none⟩ = some x2 ∧ w.cell? ⟨b, 3, none⟩ = some x3 ∧ w.cell? ⟨b, 4, none⟩ = some x4 ∧ w.cell? ⟨b, 5, none⟩ = some x5 ∧ w.cell? ⟨b, 6, none⟩ = some x6 := by
  refine ⟨?_, ?_, ?_, ?_, ?_, ?_, ?_⟩ <;> (rw [h.cell]; rfl)
theorem blk7f {w : World} {b : Nat} {cs : Array Value} {t : TypeId} (h : Blk w b cs t) : w.frozen? ⟨b, 0, none⟩ = false ∧ w.frozen? ⟨b, 1, none⟩ = false ∧ w.frozen? ⟨b, 2, none⟩ = false ∧ w.frozen? ⟨b, 3, none⟩ = false ∧ w.frozen? ⟨b, 4, none⟩ = false ∧ w.frozen? ⟨b, 5, none⟩ = false ∧ w.frozen? ⟨b, 6, none⟩ = false :=
  ⟨h.frozen 0, h.frozen 1, h.frozen 2, h.frozen 3, h.frozen 4, h.frozen 5, h.frozen 6⟩
theorem St.write7 {w0 w : World} {L : List Asr} {b : Nat} {x0 x1 x2 x3 x4 x5 x6 : Value} {t : TypeId} (h : St w0 w (blkA b #[x0, x1, x2, x3, x4, x5, x6] t :: L)) (v0 v1 v2 v3 v4 v5 v6 : Value) : St w0 (((((((w.setCell ⟨b, 0, none⟩ v0).setCell ⟨b, 1, none⟩ v1).setCell ⟨b, 2, none⟩ v2).setCell ⟨b, 3, none⟩ v3).setCell ⟨b, 4, none⟩ v4).setCell ⟨b, 5, none⟩ v5).setCell ⟨b, 6, none⟩ v6) (blkA b #[v0, v1, v2, v3, v4, v5, v6] t :: L) :=
  St.writeAll [v0, v1, v2, v3, v4, v5, v6] 0 _ w h rfl
def LoopLt (w : World) (ba bb ma n : Nat) (pa pb : WoB) (X E0 : EnS) (ds : List DescV) (la : Option Addr) (nl lc : Nat) (lv : List HdV) (N : Nat) (g : Nat) (v14 v15 : Value) (wr : World) : Prop :=
  ∃ (i : Nat) (q : List OpV), g + i = N ∧ v15 = .int .i64 (i : Nat) ∧ v14 = .int .i64 (q.length : Nat) ∧ q.length ≤ i ∧ (∀ o, o ∈ q → OpGood (ds.map DescV.kd) o) ∧ St w wr (woL bb (ltX X q n) pb ++ (woL ba (ltX (opsS E0 q) [] n) pa ++ ltR ma X.al ds la nl lc lv))
set_option maxRecDepth 100000 in
set_option maxHeartbeats 4000000 in
theorem topLater_walk (size : Int) (vd : Value) (ds : List Int) (vl : Value) (l : List Int) (vo : Value) (ops : List Int) (w : World) (Sd Sl So : Nat → Prop) (hd : Rd Sd w vd ds.length (ints ds)) (hl : Rd Sl w vl l.length (ints l)) (ho : Rd So w vo ops.length (ints ops)) (hT : Tab w) :
    Calls Tryz.prog 5 #[.int .i64 size, vd, vl, vo] w (RetTrue w) := by
  have hdr : ∀ L : List Asr, ReadIn w L vd ds.length (ints ds) := fun L w' M H => ⟨Sd, hd.keep (Keep.ofSt H) (fun _ _ f => f)⟩
  have hlr : ∀ L : List Asr, ReadIn w L vl l.length (ints l) := fun L w' M H => ⟨Sl, hl.keep (Keep.ofSt H) (fun _ _ f => f)⟩
  obtain ⟨oa, oc, rfl, hole, hom, _, _⟩ := id ho
  have HO := Lib.hid (fun (w' : World) (L : List Asr) (H : St w w' L) => (ho.keep (Keep.ofSt H) (fun _ _ f => f) : Rd So w' _ _ _))
  obtain ⟨f0, hf0⟩ : ∃ f0 : Nat → VV, f0 = fun _ => ⟨0, 0, 0⟩ := ⟨_, rfl⟩
  have HW1 := Lib.hid (law_world (St.start w) hT size ds vd (hdr _) l vl (hlr _) f0)
  have HW2 := Lib.hid (fun (w1 : World) (L : List Asr) (h : St w w1 L) => law_world h hT size ds vd (hdr _) l vl (hlr _) f0)
  have HT := Lib.hid hT
  obtain ⟨k, hk⟩ : ∃ k, ops.length = k := ⟨_, rfl⟩
  rw [hk] at hole HO ⊢
  have HK := Lib.hid hk
  have hkk : k ≤ 9223372036854775807 := by unfold maxLen at hom; omega
  obtain ⟨n, hn⟩ : ∃ n, cfgN size + 20 = n := ⟨_, rfl⟩
  obtain ⟨Y, hY⟩ : ∃ Y, wlN size ds l f0 = Y := ⟨_, rfl⟩
  unfold RetWorld at HW1 HW2
  rw [hn, hY] at HW1 HW2
  have hdl := lawDs_le ds
  obtain ⟨D, hD⟩ : ∃ D, lawDs ds = D := ⟨_, rfl⟩
  rw [hD] at HW1 HW2 hdl
  rw [show wlW Y [3, -7] n 3 = ltX Y.en [] n from rfl] at HW1 HW2
  clear hd hl ho hdr hlr hT hk hole hom hf0 hn hY hD
  go_enter Tryz.func5, Tryz.ntmps5
  go_upto_region 5 with (first
    | (go_at_call 28; refine HW1.out.mono ?_; rintro e w1 ⟨ba, ma, pa, rfl, h1, hI⟩; have H1 := Lib.hid h1; have HI := Lib.hid hI; clear h1 hI HW1)
    | (go_at_call 28; refine (HW2.out _ _ H1.out).mono ?_; rintro e w2 ⟨bb, mb, pb, rfl, h2, _⟩; have H2 := Lib.hid h2.ofMid.rest; clear h2 HW2 H1))
  obtain ⟨xs, p5, hx5, hl5, h5⟩ := (show St w w2 (m5A ma Y.en.al D 60 :: ((woL bb (ltX Y.en [] n) pb ++ woL ba (ltX Y.en [] n) pa) ++ [])) from St.ofMid (by rw [List.append_assoc]; exact H2.out)).m5Open
  have c0 := h5.m5C.c0
  have HIn := Lib.hid (a5_in h5.m5Al)
  have HX := Lib.hid hx5
  have HL := Lib.hid hl5
  have HMn := Lib.hid (fun (w' : World) (R : List Asr) (H : St w w' (woL ba (ltX Y.en [] n) pa ++ R)) => lt_maintain H HT.out HI.out.ret HI.out.ok HI.out.kinds (by decide) (show (0 : Nat) ≤ 9000 by decide) (fun o ho => by cases ho))
  clear hx5 hl5 h5
  unfold ptr at HIn HMn
  go_upto_region 7 with (first
    | (go_at_call 29; refine HIn.out.mono ?_; rintro e w3 ⟨la, nl, lc, rfl, hnl, h3⟩; have h3' := m5In HX.out HL.out h3; rw [List.append_nil, List.append_assoc] at h3'; have H3 := Lib.hid h3'; have HNL := Lib.hid hnl; clear h3 h3' hnl HIn H2 c0)
    | (go_at_call 20; refine (HMn.out _ _ (St.exch H3.out)).mono ?_; rintro e w4 ⟨r4, a4, s4, rfl, _, h4⟩; have H4 := Lib.hid (St.exch h4); clear h4 H3 HMn))
  obtain ⟨E0, hE0⟩ : ∃ E, mrgE Y.en = E := ⟨_, rfl⟩
  have HI0 := Lib.hid (show LtI (D.map DescV.kd) E0 60 by rw [← hE0]; exact LtI.merged HI.out.ret HI.out.ok HI.out.kinds)
  have HS0 := Lib.hid (show St w w4 (woL bb (ltX Y.en [] n) pb ++ (woL ba (ltX E0 [] n) pa ++ ltR ma Y.en.al D la nl lc (liveH Y.en.al))) by rw [← hE0]; exact H4.out)
  have HE0 := Lib.hid hE0
  clear H4 hE0
  obtain ⟨V, hV⟩ : ∃ V, liveH Y.en.al = V := ⟨_, rfl⟩
  have HV := Lib.hid hV
  rw [hV] at HS0 HNL
  have hnl64 : nl ≤ 64 := by rw [← HNL.out, ← hV]; exact liveH_len _
  clear hV
  obtain ⟨m, hm⟩ : ∃ m, D.length = m := ⟨_, rfl⟩
  rw [hm] at hdl
  have HM := Lib.hid hm
  clear hm
  have HC1 := Lib.hid (fun (w' : World) (P : List Asr) (h : St w w' (P ++ (woL ba (ltX E0 [] n) pa ++ ltR ma Y.en.al D la nl lc V))) => (lt_c1 (P := P ++ woL ba (ltX E0 [] n) pa) (by rw [List.append_assoc]; exact h) : ∃ sa sc, w'.cell? ⟨ma, 1, none⟩ = some (.slice sa D.length sc)))
  obtain ⟨sa, sc, c1⟩ := HC1.out _ _ HS0.out
  rw [HM.out] at c1
  clear HC1
  by_cases hnz : nl = 0
  · have e0 : ((nl : Int) == 0) = true := by simp [hnz]
    clear hnz
    go_wp2_with (go_at_call 9; refine (top_awake (HT.out.st HS0.out)).mono ?_; rintro e w9 ⟨rfl, hk9⟩; have H9 := Lib.hid (HS0.out.keep hk9); clear hk9 HS0)
    go_ret
    exact ⟨rfl, H9.out.bel⟩
  · have e0 : ((nl : Int) == 0) = false := by simp [hnz]
    by_cases hmz : m = 0
    · have e1 : ((m : Int) == 0) = true := by simp [hmz]
      clear hnz hmz
      go_wp2_with (go_at_call 9; refine (top_awake (HT.out.st HS0.out)).mono ?_; rintro e w9 ⟨rfl, hk9⟩; have H9 := Lib.hid (HS0.out.keep hk9); clear hk9 HS0 c1)
      go_ret
      exact ⟨rfl, H9.out.bel⟩
    · have e1 : ((m : Int) == 0) = false := by simp [hmz]
      have HNZ := Lib.hid hnz
      have HMZ := Lib.hid hmz
      clear hnz hmz
      go_upto_region 9 with fail
      clear c1 e0 e1
      obtain ⟨N, hN⟩ : ∃ N, min k 60 = N := ⟨_, rfl⟩
      have HN := Lib.hid hN
      clear hN
      go_wp2_with fail
      go_loopg [14, 15] N (fun g v14 v15 wr => LoopLt w ba bb ma n pa pb Y.en E0 D la nl lc V N g v14 v15 wr)
      case atStart => exact ⟨0, [], by omega, rfl, rfl, Nat.le_refl _, (fun o ho => by cases ho), HS0.out⟩
      case round =>
        obtain ⟨i, q, hg, rfl, rfl, hqi, hgo, hst⟩ := hrel
        clear HS0
        have HG := Lib.hid hg
        have HGO := Lib.hid hgo
        have HST := Lib.hid hst
        have HLE := Lib.hid (show N ≤ k ∧ N ≤ 60 by have := HN.out; omega)
        by_cases hlt : i < N
        · have hik : i < k := by have := HLE.out; omega
          have hi60 : i < 60 := by have := HLE.out; omega
          obtain ⟨x0, hx0⟩ : ∃ x, ops[i]? = some x := ⟨_, List.getElem?_eq_getElem (by rw [HK.out]; exact hik)⟩
          obtain ⟨bo, oo, ⟨cc, hv3⟩, _, c0⟩ := (HO.out wr _ hst).int hx0
          simp only [Value.slice.injEq, true_and] at hv3
          have ela := hv3.1
          clear hv3
          subst ela
          obtain ⟨y, hy, hy2⟩ := and24m x0
          have e0 : decide ((i : Int) < (k : Int)) = true := decide_eq_true (by omega)
          have e1 : decide ((i : Int) < 60) = true := decide_eq_true (by omega)
          have e3 : decide (i < 60) = true := decide_eq_true (by omega)
          have e2 : decide (k ≤ i) = false := decide_eq_false (by omega)
          have HLT := Lib.hid hlt
          have HQI := Lib.hid hqi
          have HY := Lib.hid hy2
          clear hx0 hg hst hgo hlt hqi hy2
          go_upto_region 14 with fail
          clear hy c0 e0 e1 e2 e3 hik
          obtain ⟨h, hh⟩ : ∃ h, y / 4 % nl = h := ⟨_, rfl⟩
          have hhl : h < nl := by rw [← hh]; exact Nat.mod_lt _ (by have := HNZ.out; omega)
          have hhi : (y : Int) / 4 % (nl : Int) = (h : Int) := by rw [← hh, Int.natCast_emod, Int.natCast_ediv]; rfl
          obtain ⟨c, hc⟩ : ∃ c, y / 1024 % m = c := ⟨_, rfl⟩
          have hcm : c < m := by rw [← hc]; exact Nat.mod_lt _ (by have := HMZ.out; omega)
          have hci : (y : Int) / 1024 % (m : Int) = (c : Int) := by rw [← hc, Int.natCast_emod, Int.natCast_ediv]; rfl
          clear hh hc
          obtain ⟨d, hd⟩ : ∃ d, D[c]? = some d := ⟨_, List.getElem?_eq_getElem (by rw [HM.out]; exact hcm)⟩
          have HKS := Lib.hid (show (D.map DescV.kd)[c]? = some d.kd by rw [List.getElem?_map, hd]; rfl)
          have hjl : V[h]? = some (V[h]'(by rw [HNL.out]; exact hhl)) := List.getElem?_eq_getElem _
          obtain ⟨⟨hi, hgn⟩, hhv⟩ : ∃ z, V[h]'(by rw [HNL.out]; exact hhl) = z := ⟨_, rfl⟩
          rw [hhv] at hjl
          have HSt := Lib.hid (show Y.en.al.st hi hgn ≠ 0 by
            have h9 := liveH_st HI.out.ok.al (h := ⟨hi, hgn⟩) (by rw [HV.out]; exact List.mem_of_getElem? hjl)
            have h8 : Y.en.al.st hi hgn = 1 := h9
            rw [h8]
            decide)
          have hdk : d.kd = 1 ∨ d.kd = 2 ∨ d.kd = 3 := by
            obtain ⟨s, hs1, hs2⟩ := EnS.kind_at (e := Y.en) (c := c) (kd := d.kd) (by rw [HI.out.kinds]; exact HKS.out)
            rw [← hs2]
            exact (HI.out.ok.sl s (List.mem_of_getElem? hs1)).kind
          obtain ⟨bo2, oo2, hsl, x0c, x1c⟩ := lt_hd (P := woL bb (ltX Y.en q n) pb ++ woL ba (ltX (opsS E0 q) [] n) pa) (by rw [List.append_assoc]; exact HST.out) hjl
          have HSL := Lib.hid hsl
          have HB := Lib.hid (HST.out.box0 #[.int .i64 hi, .int .i64 hgn] 45).drew
          obtain ⟨sa2, sc2, g2, xb, hsa, c1, c2, c3⟩ := lt_row (P := woL bb (ltX Y.en q n) pb ++ woL ba (ltX (opsS E0 q) [] n) pa) (by rw [List.append_assoc]; exact HST.out) hd
          rw [HM.out] at c1
          subst hsl
          subst hsa
          unfold ptr at c2
          have hnz : ¬ nl = 0 := HNZ.out
          have hmz : ¬ m = 0 := HMZ.out
          have hqt : ((y : Int) / 4).tmod (nl : Int) = (h : Int) := by rw [Int.tmod_eq_emod_of_nonneg (by omega)]; exact hhi
          have hct : ((y : Int) / 1024).tmod (m : Int) = (c : Int) := by rw [Int.tmod_eq_emod_of_nonneg (by omega)]; exact hci
          have k0 : (h : Int) < (nl : Int) := by omega
          have e5 : decide (nl ≤ h) = false := decide_eq_false (by omega)
          have e6 : decide (m ≤ c) = false := decide_eq_false (by omega)
          clear hd hjl hhv
          refine wp_region_M (r := 18) (S := fun w' => w'.cell? ⟨ma, 1, none⟩ = some (.slice (some ⟨g2, 0, none⟩) m sc2) ∧ w'.cell? ⟨bo2, oo2 + h * 2, none⟩ = some (.int .i64 hi) ∧ w'.cell? ⟨bo2, oo2 + h * 2 + 1, none⟩ = some (.int .i64 hgn) ∧ w'.cell? ⟨g2, c, none⟩ = some (.pointer (some ⟨xb, 0, none⟩)) ∧ w'.cell? ⟨xb, 0, none⟩ = some (.int .i64 (d.kd : Nat))) (by kernel_rfl) ?_ (fun hHeld => ?_)
          · (try dsimp only); (first | exact ⟨c1, x0c, x1c, c2, c3⟩ | exact ⟨((Keep.refl _ Nope).alloc _).cell c1 (fun f => f), ((Keep.refl _ Nope).alloc _).cell x0c (fun f => f), ((Keep.refl _ Nope).alloc _).cell x1c (fun f => f), ((Keep.refl _ Nope).alloc _).cell c2 (fun f => f), ((Keep.refl _ Nope).alloc _).cell c3 (fun f => f)⟩)
          refine tkP 0 ?_; refine tkP 1 ?_; refine tkP 2 ?_; refine tkP 3 ?_; refine tkP 4 ?_; refine tkP 5 ?_; refine tkP 6 ?_; refine tkH 7 ?_; refine tkP 8 ?_; refine tkP 9 ?_; refine tkP 10 ?_; refine tkP 11 ?_; refine tkP 12 ?_; refine tkH 13 ?_; refine tkP 14 ?_; refine tkP 15 ?_; refine tkC 16 ?_
          intro K hK
          go_simp
          refine hK.out _ _ ?_ (fun hHeld => ?_)
          · (try dsimp only); (first | exact ⟨c1, x0c, x1c, c2, c3⟩ | exact ⟨((Keep.refl _ Nope).alloc _).cell c1 (fun f => f), ((Keep.refl _ Nope).alloc _).cell x0c (fun f => f), ((Keep.refl _ Nope).alloc _).cell x1c (fun f => f), ((Keep.refl _ Nope).alloc _).cell c2 (fun f => f), ((Keep.refl _ Nope).alloc _).cell c3 (fun f => f)⟩)
          clear hK K
          refine tkC 17 ?_
          intro K hK
          go_simp
          refine hK.out _ _ ?_ (fun hHeld => ?_)
          · (try dsimp only); (first | exact ⟨c1, x0c, x1c, c2, c3⟩ | exact ⟨((Keep.refl _ Nope).alloc _).cell c1 (fun f => f), ((Keep.refl _ Nope).alloc _).cell x0c (fun f => f), ((Keep.refl _ Nope).alloc _).cell x1c (fun f => f), ((Keep.refl _ Nope).alloc _).cell c2 (fun f => f), ((Keep.refl _ Nope).alloc _).cell c3 (fun f => f)⟩)
          clear hK K
          refine tkF 18 ?_
          intro K hK
          go_simp
          refine hK.out _ _ ?_
          clear hK K
          refine wpAnyM_done (by kernel_rfl) ?_ _
          obtain ⟨hb, hhb⟩ : ∃ hb, wr.heap.size = hb := ⟨_, rfl⟩
          obtain ⟨w3, hw3⟩ : ∃ w3, (wr.alloc (.cells #[.int .i64 hi, .int .i64 hgn] 45)).drew = w3 := ⟨_, rfl⟩
          rw [hhb, hw3] at HB
          rw [hw3] at hHeld
          rw [hhb, hw3]
          clear c1 c2 c3 x0c x1c hhb hw3 hqt hct k0 e5 hnz hmz hhi hci hhl
          obtain ⟨c1, _, _, c2, c3⟩ := hHeld
          obtain ⟨A1, hA1⟩ : ∃ z, y / 16 % 16 = z := ⟨_, rfl⟩
          obtain ⟨B1, hB1⟩ : ∃ z, y / 128 % 4 = z := ⟨_, rfl⟩
          have a2 : bits .and .i64 ((y : Int) / 16) 15 = (A1 : Int) := by
            rw [and_mask ((y : Int) / 16) 4 15 (by decide) rfl]
            omega
          have a3 : bits .and .i64 ((y : Int) / 128) 3 = (B1 : Int) := by
            rw [and_mask ((y : Int) / 128) 2 3 (by decide) rfl]
            omega
          have HLV := Lib.hid (law_value d.kd hdk (A1 : Int) (B1 : Int))
          have hvok := lawV_ok hdk (A1 : Int) (B1 : Int)
          have hvk := lawV_k hdk (A1 : Int) (B1 : Int)
          obtain ⟨⟨vk, va, vb⟩, hu⟩ : ∃ u, lawV d.kd (A1 : Int) (B1 : Int) = u := ⟨_, rfl⟩
          rw [hu] at HLV hvok hvk
          have HVO := Lib.hid hvok
          have HVK := Lib.hid hvk
          unfold VV.val at HLV
          simp only at HLV
          clear hA1 hB1 hu hvok hvk hdk
          go_upto_region 16 with (go_at_call 30; refine (HLV.out _).mono ?_; rintro e w4 ⟨rfl, hk4⟩; have H4 := Lib.hid ((HB.out.keep hk4).box0 #[.int .i64 vk, .int .i64 va, .int .i64 vb] 34); clear hk4 HLV HB c1 c2 c3)
          obtain ⟨vbk, hvb⟩ : ∃ b, w4.heap.size = b := ⟨_, rfl⟩
          obtain ⟨w5, hw5⟩ : ∃ w, w4.alloc (.cells #[.int .i64 vk, .int .i64 va, .int .i64 vb] 34) = w := ⟨_, rfl⟩
          rw [hvb, hw5] at H4
          rw [hvb, hw5]
          clear hvb hw5 a2 a3 e6
          obtain ⟨v0, v1, v2, _, _, _⟩ := (H4.out.blk 0 rfl).three
          obtain ⟨z0, z1, _, _⟩ := (H4.out.blk 1 (b := hb) (cs := #[.int .i64 hi, .int .i64 hgn]) (t := 45) rfl).two
          have H5 := Lib.hid (H4.out.box0 #[.int .i64 2, .int .i64 hi, .int .i64 hgn, .int .i64 (c : Nat), .int .i64 vk, .int .i64 va, .int .i64 vb] 79)
          clear H4
          go_upto_region 17 with fail
          obtain ⟨ob, hob⟩ : ∃ b, w5.heap.size = b := ⟨_, rfl⟩
          obtain ⟨w6, hw6⟩ : ∃ w, w5.alloc (.cells #[.int .i64 2, .int .i64 hi, .int .i64 hgn, .int .i64 (c : Nat), .int .i64 vk, .int .i64 va, .int .i64 vb] 79) = w := ⟨_, rfl⟩
          rw [hob, hw6] at H5
          rw [hob, hw6]
          clear hob hw6 v0 v1 v2 z0 z1
          have H6 := H5
          clear H5
          obtain ⟨v0, v1, v2, _, _, _⟩ := (H6.out.blk 1 (b := vbk) (cs := #[.int .i64 vk, .int .i64 va, .int .i64 vb]) (t := 34) rfl).three
          obtain ⟨z0, z1, _, _⟩ := (H6.out.blk 2 (b := hb) (cs := #[.int .i64 hi, .int .i64 hgn]) (t := 45) rfl).two
          obtain ⟨r4, hr4⟩ : ∃ r, y % 4 = r := ⟨_, rfl⟩
          have a4 : bits .and .i64 (y : Int) 3 = (r4 : Int) := by
            rw [and_mask (y : Int) 2 3 (by decide) rfl]
            omega
          have HJ := Lib.hid (show 60 + q.length ≤ 90000 by have := HQI.out; omega)
          clear hr4
          by_cases h1 : r4 = 1
          · have f1 : ((r4 : Int) == 1) = true := by simp [h1]
            have HOp := Lib.hid (fun (w' : World) (R : List Asr) (H : St w w' (woL ba (ltX (opsS E0 q) [] n) pa ++ R)) => lt_remove H (HI0.out.ops q) HJ.out hi hgn c d.kd HKS.out 0 0 0)
            unfold ptr hdV RetLt at HOp
            clear h1
            go_upto_region 21 with (go_at_call 17; refine (HOp.out _ _ (St.exch (A := woL ba (ltX (opsS E0 q) [] n) pa) (B := blkA ob #[.int .i64 2, .int .i64 hi, .int .i64 hgn, .int .i64 (c : Nat), .int .i64 vk, .int .i64 va, .int .i64 vb] 79 :: blkA vbk #[.int .i64 vk, .int .i64 va, .int .i64 vb] 34 :: blkA hb #[.int .i64 hi, .int .i64 hgn] 45 :: woL bb (ltX Y.en q n) pb) H6.out)).mono ?_; rintro e w7 ⟨u7, rfl, h7⟩; have H7 := Lib.hid (show St w w7 (blkA ob #[.int .i64 2, .int .i64 hi, .int .i64 hgn, .int .i64 (c : Nat), .int .i64 vk, .int .i64 va, .int .i64 vb] 79 :: blkA vbk #[.int .i64 vk, .int .i64 va, .int .i64 vb] 34 :: blkA hb #[.int .i64 hi, .int .i64 hgn] 45 :: (woL bb (ltX Y.en q n) pb ++ (woL ba (ltX (opS (opsS E0 q) ⟨3, hi, hgn, (c : Nat), 0, 0, 0⟩) [] n) pa ++ ltR ma Y.en.al D (some ⟨bo2, oo2, none⟩) nl lc V))) from St.exch (A := blkA ob #[.int .i64 2, .int .i64 hi, .int .i64 hgn, .int .i64 (c : Nat), .int .i64 vk, .int .i64 va, .int .i64 vb] 79 :: blkA vbk #[.int .i64 vk, .int .i64 va, .int .i64 vb] 34 :: blkA hb #[.int .i64 hi, .int .i64 hgn] 45 :: woL bb (ltX Y.en q n) pb) (B := woL ba (ltX (opS (opsS E0 q) ⟨3, hi, hgn, (c : Nat), 0, 0, 0⟩) [] n) pa) h7); clear h7 HOp H6 z0 z1 v0 v1 v2)
            clear f1 a4
            obtain ⟨y0, y1, y2, y3, y4, y5, y6⟩ := blk7f (H7.out.blk 0 rfl); obtain ⟨o0, o1, o2, o3, o4, o5, o6⟩ := blk7 (H7.out.blk 0 rfl)
            obtain ⟨z0, z1, _, _⟩ := (H7.out.blk 2 (b := hb) (cs := #[.int .i64 hi, .int .i64 hgn]) (t := 45) rfl).two
            have h8 := St.write7 H7.out (.int .i64 3) (.int .i64 hi) (.int .i64 hgn) (.int .i64 (c : Nat)) (.int .i64 0) (.int .i64 0) (.int .i64 0)
            go_upto_region 26 with fail
            obtain ⟨w8, hw8⟩ : ∃ w8, (((((((w7.setCell ⟨ob, 0, none⟩ (.int .i64 3)).setCell ⟨ob, 1, none⟩ (.int .i64 hi)).setCell ⟨ob, 2, none⟩ (.int .i64 hgn)).setCell ⟨ob, 3, none⟩ (.int .i64 (c : Nat))).setCell ⟨ob, 4, none⟩ (.int .i64 0)).setCell ⟨ob, 5, none⟩ (.int .i64 0)).setCell ⟨ob, 6, none⟩ (.int .i64 0)) = w8 := ⟨_, rfl⟩
            rw [hw8] at h8
            rw [hw8]
            clear H7 y0 y1 y2 y3 y4 y5 y6 z0 z1 hw8 o0 o1 o2 o3 o4 o5 o6
            have H7 := Lib.hid h8
            clear h8
            have HGood := Lib.hid (show OpGood (D.map DescV.kd) ⟨3, hi, hgn, (c : Nat), 0, 0, 0⟩ from ⟨.inr (.inr ⟨rfl, ⟨c, d.kd, rfl, HKS.out⟩, rfl, rfl, rfl⟩)⟩)
            have HDf := Lib.hid (fun (w' : World) (R : List Asr) (H : St w w' (woL bb (ltX Y.en q n) pb ++ R)) (S : Nat → Prop) (v : Value) (hv : Rd S w' v 1 (flatOp [⟨3, hi, hgn, (c : Nat), 0, 0, 0⟩])) => lt_defer H HI.out.ok HI.out.kinds ⟨3, hi, hgn, (c : Nat), 0, 0, 0⟩ HGood.out HSt.out (by show q.length ≤ 9000; have := HQI.out; omega) S v hv)
            unfold ptr at HDf
            have hq60 : q.length ≤ 60 := by have := HQI.out; omega
            obtain ⟨o0, o1, o2, o3, o4, o5, o6⟩ := blk7 (H7.out.blk 0 rfl)
            go_wp2_with (go_at_call 19; refine (HDf.out _ _ (St.exch (A := woL bb (ltX Y.en q n) pb) (B := [blkA ob #[.int .i64 3, .int .i64 hi, .int .i64 hgn, .int .i64 (c : Nat), .int .i64 0, .int .i64 0, .int .i64 0] 79, blkA vbk #[.int .i64 vk, .int .i64 va, .int .i64 vb] 34, blkA hb #[.int .i64 hi, .int .i64 hgn] 45]) (H7.out.alloc _)) (fun z => z = w8.heap.size) _ (Own.lit (S := fun z => z = w8.heap.size) w8 79 7 1 #[.int .i64 3, .int .i64 hi, .int .i64 hgn, .int .i64 (c : Nat), .int .i64 0, .int .i64 0, .int .i64 0] (by decide) rfl rfl).rd).mono ?_; rintro e w9 ⟨rfl, h9⟩; have H9 := Lib.hid (show St w w9 (blkA ob #[.int .i64 3, .int .i64 hi, .int .i64 hgn, .int .i64 (c : Nat), .int .i64 0, .int .i64 0, .int .i64 0] 79 :: blkA vbk #[.int .i64 vk, .int .i64 va, .int .i64 vb] 34 :: blkA hb #[.int .i64 hi, .int .i64 hgn] 45 :: _) from St.exch (A := [blkA ob #[.int .i64 3, .int .i64 hi, .int .i64 hgn, .int .i64 (c : Nat), .int .i64 0, .int .i64 0, .int .i64 0] 79, blkA vbk #[.int .i64 vk, .int .i64 va, .int .i64 vb] 34, blkA hb #[.int .i64 hi, .int .i64 hgn] 45]) h9).rest.rest.rest; clear h9 HDf H7 o0 o1 o2 o3 o4 o5 o6)
            go_roundg (N - (i + 1))
            case measure => have := HG.out; have := HLT.out; omega
            case rel => exact ⟨i + 1, q ++ [⟨3, hi, hgn, (c : Nat), 0, 0, 0⟩], by have := HG.out; have := HLT.out; omega, by go_num, by have := HQI.out; simp only [List.length_append, List.length_singleton]; go_num, by rw [List.length_append]; exact Nat.succ_le_succ HQI.out, fun o ho => (List.mem_append.1 ho).elim (fun h => HGO.out o h) (fun h => by rw [List.mem_singleton.1 h]; exact HGood.out), by rw [opsS_snoc]; exact H9.out⟩
          · have f1 : ((r4 : Int) == 1) = false := by simp; omega
            by_cases h2 : r4 = 2
            · have f2 : ((r4 : Int) == 2) = true := by simp [h2]
              obtain ⟨s4, hs4⟩ : ∃ r, y / 1048576 % 4 = r := ⟨_, rfl⟩
              have a5 : bits .and .i64 ((y : Int) / 1048576) 3 = (s4 : Int) := by
                rw [and_mask ((y : Int) / 1048576) 2 3 (by decide) rfl]
                omega
              clear hs4 h1 h2
              by_cases h3 : s4 = 0
              · have f3 : ((s4 : Int) == 0) = true := by simp [h3]
                have HOp := Lib.hid (fun (w' : World) (R : List Asr) (H : St w w' (woL ba (ltX (opsS E0 q) [] n) pa ++ R)) => lt_delete H (HI0.out.ops q) HJ.out hi hgn 0 0 0 0)
                unfold ptr hdV RetLt at HOp
                clear h3
                go_upto_region 25 with (go_at_call 18; refine (HOp.out _ _ (St.exch (A := woL ba (ltX (opsS E0 q) [] n) pa) (B := blkA ob #[.int .i64 2, .int .i64 hi, .int .i64 hgn, .int .i64 (c : Nat), .int .i64 vk, .int .i64 va, .int .i64 vb] 79 :: blkA vbk #[.int .i64 vk, .int .i64 va, .int .i64 vb] 34 :: blkA hb #[.int .i64 hi, .int .i64 hgn] 45 :: woL bb (ltX Y.en q n) pb) H6.out)).mono ?_; rintro e w7 ⟨u7, rfl, h7⟩; have H7 := Lib.hid (show St w w7 (blkA ob #[.int .i64 2, .int .i64 hi, .int .i64 hgn, .int .i64 (c : Nat), .int .i64 vk, .int .i64 va, .int .i64 vb] 79 :: blkA vbk #[.int .i64 vk, .int .i64 va, .int .i64 vb] 34 :: blkA hb #[.int .i64 hi, .int .i64 hgn] 45 :: (woL bb (ltX Y.en q n) pb ++ (woL ba (ltX (opS (opsS E0 q) ⟨1, hi, hgn, 0, 0, 0, 0⟩) [] n) pa ++ ltR ma Y.en.al D (some ⟨bo2, oo2, none⟩) nl lc V))) from St.exch (A := blkA ob #[.int .i64 2, .int .i64 hi, .int .i64 hgn, .int .i64 (c : Nat), .int .i64 vk, .int .i64 va, .int .i64 vb] 79 :: blkA vbk #[.int .i64 vk, .int .i64 va, .int .i64 vb] 34 :: blkA hb #[.int .i64 hi, .int .i64 hgn] 45 :: woL bb (ltX Y.en q n) pb) (B := woL ba (ltX (opS (opsS E0 q) ⟨1, hi, hgn, 0, 0, 0, 0⟩) [] n) pa) h7); clear h7 HOp H6 z0 z1 v0 v1 v2)
                clear f1 f2 f3 a4 a5
                obtain ⟨y0, y1, y2, y3, y4, y5, y6⟩ := blk7f (H7.out.blk 0 rfl); obtain ⟨o0, o1, o2, o3, o4, o5, o6⟩ := blk7 (H7.out.blk 0 rfl)
                obtain ⟨z0, z1, _, _⟩ := (H7.out.blk 2 (b := hb) (cs := #[.int .i64 hi, .int .i64 hgn]) (t := 45) rfl).two
                have h8 := St.write7 H7.out (.int .i64 1) (.int .i64 hi) (.int .i64 hgn) (.int .i64 0) (.int .i64 0) (.int .i64 0) (.int .i64 0)
                go_upto_region 26 with fail
                obtain ⟨w8, hw8⟩ : ∃ w8, (((((((w7.setCell ⟨ob, 0, none⟩ (.int .i64 1)).setCell ⟨ob, 1, none⟩ (.int .i64 hi)).setCell ⟨ob, 2, none⟩ (.int .i64 hgn)).setCell ⟨ob, 3, none⟩ (.int .i64 0)).setCell ⟨ob, 4, none⟩ (.int .i64 0)).setCell ⟨ob, 5, none⟩ (.int .i64 0)).setCell ⟨ob, 6, none⟩ (.int .i64 0)) = w8 := ⟨_, rfl⟩
                rw [hw8] at h8
                rw [hw8]
                clear H7 y0 y1 y2 y3 y4 y5 y6 z0 z1 hw8 o0 o1 o2 o3 o4 o5 o6
                have H7 := Lib.hid h8
                clear h8
                have HGood := Lib.hid (show OpGood (D.map DescV.kd) ⟨1, hi, hgn, 0, 0, 0, 0⟩ from ⟨.inl ⟨rfl, rfl, rfl, rfl, rfl⟩⟩)
                have HDf := Lib.hid (fun (w' : World) (R : List Asr) (H : St w w' (woL bb (ltX Y.en q n) pb ++ R)) (S : Nat → Prop) (v : Value) (hv : Rd S w' v 1 (flatOp [⟨1, hi, hgn, 0, 0, 0, 0⟩])) => lt_defer H HI.out.ok HI.out.kinds ⟨1, hi, hgn, 0, 0, 0, 0⟩ HGood.out HSt.out (by show q.length ≤ 9000; have := HQI.out; omega) S v hv)
                unfold ptr at HDf
                have hq60 : q.length ≤ 60 := by have := HQI.out; omega
                obtain ⟨o0, o1, o2, o3, o4, o5, o6⟩ := blk7 (H7.out.blk 0 rfl)
                go_wp2_with (go_at_call 19; refine (HDf.out _ _ (St.exch (A := woL bb (ltX Y.en q n) pb) (B := [blkA ob #[.int .i64 1, .int .i64 hi, .int .i64 hgn, .int .i64 0, .int .i64 0, .int .i64 0, .int .i64 0] 79, blkA vbk #[.int .i64 vk, .int .i64 va, .int .i64 vb] 34, blkA hb #[.int .i64 hi, .int .i64 hgn] 45]) (H7.out.alloc _)) (fun z => z = w8.heap.size) _ (Own.lit (S := fun z => z = w8.heap.size) w8 79 7 1 #[.int .i64 1, .int .i64 hi, .int .i64 hgn, .int .i64 0, .int .i64 0, .int .i64 0, .int .i64 0] (by decide) rfl rfl).rd).mono ?_; rintro e w9 ⟨rfl, h9⟩; have H9 := Lib.hid (show St w w9 (blkA ob #[.int .i64 1, .int .i64 hi, .int .i64 hgn, .int .i64 0, .int .i64 0, .int .i64 0, .int .i64 0] 79 :: blkA vbk #[.int .i64 vk, .int .i64 va, .int .i64 vb] 34 :: blkA hb #[.int .i64 hi, .int .i64 hgn] 45 :: _) from St.exch (A := [blkA ob #[.int .i64 1, .int .i64 hi, .int .i64 hgn, .int .i64 0, .int .i64 0, .int .i64 0, .int .i64 0] 79, blkA vbk #[.int .i64 vk, .int .i64 va, .int .i64 vb] 34, blkA hb #[.int .i64 hi, .int .i64 hgn] 45]) h9).rest.rest.rest; clear h9 HDf H7 o0 o1 o2 o3 o4 o5 o6)
                go_roundg (N - (i + 1))
                case measure => have := HG.out; have := HLT.out; omega
                case rel => exact ⟨i + 1, q ++ [⟨1, hi, hgn, 0, 0, 0, 0⟩], by have := HG.out; have := HLT.out; omega, by go_num, by have := HQI.out; simp only [List.length_append, List.length_singleton]; go_num, by rw [List.length_append]; exact Nat.succ_le_succ HQI.out, fun o ho => (List.mem_append.1 ho).elim (fun h => HGO.out o h) (fun h => by rw [List.mem_singleton.1 h]; exact HGood.out), by rw [opsS_snoc]; exact H9.out⟩
              · have f3 : ((s4 : Int) == 0) = false := by simp; omega
                clear h3
                go_wp2_with fail
                go_roundg (N - (i + 1))
                case measure => have := HG.out; have := HLT.out; omega
                case rel => exact ⟨i + 1, q, by have := HG.out; have := HLT.out; omega, by go_num, rfl, Nat.le_succ_of_le HQI.out, HGO.out, H6.out.rest.rest.rest⟩
            · have f2 : ((r4 : Int) == 2) = false := by simp; omega
              have HOp := Lib.hid (fun (w' : World) (R : List Asr) (H : St w w' (woL ba (ltX (opsS E0 q) [] n) pa ++ R)) => lt_insert H (HI0.out.ops q) HJ.out hi hgn c d.kd HKS.out ⟨vk, va, vb⟩ HVO.out HVK.out)
              unfold ptr hdV RetLt VV.val at HOp
              clear h1 h2
              go_upto_region 26 with (go_at_call 15; refine (HOp.out _ _ (St.exch (A := woL ba (ltX (opsS E0 q) [] n) pa) (B := blkA ob #[.int .i64 2, .int .i64 hi, .int .i64 hgn, .int .i64 (c : Nat), .int .i64 vk, .int .i64 va, .int .i64 vb] 79 :: blkA vbk #[.int .i64 vk, .int .i64 va, .int .i64 vb] 34 :: blkA hb #[.int .i64 hi, .int .i64 hgn] 45 :: woL bb (ltX Y.en q n) pb) H6.out)).mono ?_; rintro e w7 ⟨u7, rfl, h7⟩; have H7 := Lib.hid (show St w w7 (blkA ob #[.int .i64 2, .int .i64 hi, .int .i64 hgn, .int .i64 (c : Nat), .int .i64 vk, .int .i64 va, .int .i64 vb] 79 :: blkA vbk #[.int .i64 vk, .int .i64 va, .int .i64 vb] 34 :: blkA hb #[.int .i64 hi, .int .i64 hgn] 45 :: (woL bb (ltX Y.en q n) pb ++ (woL ba (ltX (opS (opsS E0 q) ⟨2, hi, hgn, (c : Nat), vk, va, vb⟩) [] n) pa ++ ltR ma Y.en.al D (some ⟨bo2, oo2, none⟩) nl lc V))) from St.exch (A := blkA ob #[.int .i64 2, .int .i64 hi, .int .i64 hgn, .int .i64 (c : Nat), .int .i64 vk, .int .i64 va, .int .i64 vb] 79 :: blkA vbk #[.int .i64 vk, .int .i64 va, .int .i64 vb] 34 :: blkA hb #[.int .i64 hi, .int .i64 hgn] 45 :: woL bb (ltX Y.en q n) pb) (B := woL ba (ltX (opS (opsS E0 q) ⟨2, hi, hgn, (c : Nat), vk, va, vb⟩) [] n) pa) h7); clear h7 HOp H6 z0 z1 v0 v1 v2)
              clear f1 f2 a4
              have HGood := Lib.hid (show OpGood (D.map DescV.kd) ⟨2, hi, hgn, (c : Nat), vk, va, vb⟩ from ⟨.inr (.inl ⟨rfl, c, d.kd, rfl, HKS.out, HVK.out, HVO.out⟩)⟩)
              have HDf := Lib.hid (fun (w' : World) (R : List Asr) (H : St w w' (woL bb (ltX Y.en q n) pb ++ R)) (S : Nat → Prop) (v : Value) (hv : Rd S w' v 1 (flatOp [⟨2, hi, hgn, (c : Nat), vk, va, vb⟩])) => lt_defer H HI.out.ok HI.out.kinds ⟨2, hi, hgn, (c : Nat), vk, va, vb⟩ HGood.out HSt.out (by show q.length ≤ 9000; have := HQI.out; omega) S v hv)
              unfold ptr at HDf
              have hq60 : q.length ≤ 60 := by have := HQI.out; omega
              obtain ⟨o0, o1, o2, o3, o4, o5, o6⟩ := blk7 (H7.out.blk 0 rfl)
              go_wp2_with (go_at_call 19; refine (HDf.out _ _ (St.exch (A := woL bb (ltX Y.en q n) pb) (B := [blkA ob #[.int .i64 2, .int .i64 hi, .int .i64 hgn, .int .i64 (c : Nat), .int .i64 vk, .int .i64 va, .int .i64 vb] 79, blkA vbk #[.int .i64 vk, .int .i64 va, .int .i64 vb] 34, blkA hb #[.int .i64 hi, .int .i64 hgn] 45]) (H7.out.alloc _)) (fun z => z = w7.heap.size) _ (Own.lit (S := fun z => z = w7.heap.size) w7 79 7 1 #[.int .i64 2, .int .i64 hi, .int .i64 hgn, .int .i64 (c : Nat), .int .i64 vk, .int .i64 va, .int .i64 vb] (by decide) rfl rfl).rd).mono ?_; rintro e w9 ⟨rfl, h9⟩; have H9 := Lib.hid (show St w w9 (blkA ob #[.int .i64 2, .int .i64 hi, .int .i64 hgn, .int .i64 (c : Nat), .int .i64 vk, .int .i64 va, .int .i64 vb] 79 :: blkA vbk #[.int .i64 vk, .int .i64 va, .int .i64 vb] 34 :: blkA hb #[.int .i64 hi, .int .i64 hgn] 45 :: _) from St.exch (A := [blkA ob #[.int .i64 2, .int .i64 hi, .int .i64 hgn, .int .i64 (c : Nat), .int .i64 vk, .int .i64 va, .int .i64 vb] 79, blkA vbk #[.int .i64 vk, .int .i64 va, .int .i64 vb] 34, blkA hb #[.int .i64 hi, .int .i64 hgn] 45]) h9).rest.rest.rest; clear h9 HDf H7 o0 o1 o2 o3 o4 o5 o6)
              go_roundg (N - (i + 1))
              case measure => have := HG.out; have := HLT.out; omega
              case rel => exact ⟨i + 1, q ++ [⟨2, hi, hgn, (c : Nat), vk, va, vb⟩], by have := HG.out; have := HLT.out; omega, by go_num, by have := HQI.out; simp only [List.length_append, List.length_singleton]; go_num, by rw [List.length_append]; exact Nat.succ_le_succ HQI.out, fun o ho => (List.mem_append.1 ho).elim (fun h => HGO.out o h) (fun h => by rw [List.mem_singleton.1 h]; exact HGood.out), by rw [opsS_snoc]; exact H9.out⟩
        · have hns : k ≤ i ∨ (i < k ∧ 60 ≤ i) := by have := HN.out; omega
          have HQ := Lib.hid (show q.length ≤ 60 by have := HLE.out; omega)
          have HMn := Lib.hid (fun (w' : World) (R : List Asr) (H : St w w' (woL bb (ltX Y.en q n) pb ++ R)) => lt_maintain H HT.out HI.out.ret HI.out.ok HI.out.kinds (by decide) (show q.length ≤ 9000 by have := HQ.out; omega) HGO.out)
          unfold ptr at HMn
          rw [show (ltX Y.en q n).en = Y.en from rfl, show (ltX Y.en q n).qu = q from rfl, HE0.out] at HMn
          clear hqi hg hgo hst hlt
          obtain ⟨ql, hql⟩ : ∃ z, q.length = z := ⟨_, rfl⟩
          have hq60 : ql ≤ 60 := by have := HQ.out; omega
          obtain ⟨E, hE⟩ : ∃ E, opsS E0 q = E := ⟨_, rfl⟩
          have HIE := Lib.hid (show LtI (D.map DescV.kd) E (60 + ql) by rw [← hE, ← hql]; exact HI0.out.ops q)
          rw [hE, hql] at HMn
          rw [hE] at HST
          try rw [hql]
          clear hql hE
          rcases hns with h0 | ⟨h0, h1⟩
          case' inl => (have e1 : decide ((i : Int) < (k : Int)) = false := decide_eq_false (by omega)); (have e2 : decide (i < k) = false := decide_eq_false (by omega)); go_upto_region 29 with fail; clear h0 e2
          case' inr => (have e1 : decide ((i : Int) < (k : Int)) = true := decide_eq_true (by omega)); (have e2 : decide ((i : Int) < 60) = false := decide_eq_false (by omega)); (have e3 : decide (i < 60) = false := decide_eq_false (by omega)); go_upto_region 29 with fail; clear e2 e3 h0 h1
          all_goals
            clear e1
            go_upto_region 30 with (go_at_call 20; refine (HMn.out _ _ HST.out).mono ?_; rintro e w5 ⟨r5, a5, s5, rfl, hs5, h5⟩; have H5 := Lib.hid (h5.box0 #[.int .i64 (r5 : Nat), .int .i64 (a5 : Nat), .int .i64 (s5 : Nat)] 52); have HS5 := Lib.hid hs5; clear h5 HST HMn hs5)
            obtain ⟨rb, hrb⟩ : ∃ b, w5.heap.size = b := ⟨_, rfl⟩
            obtain ⟨w6, hw6⟩ : ∃ w, w5.alloc (.cells #[.int .i64 (r5 : Nat), .int .i64 (a5 : Nat), .int .i64 (s5 : Nat)] 52) = w := ⟨_, rfl⟩
            rw [hrb, hw6] at H5
            rw [hrb, hw6]
            clear hrb hw6
            obtain ⟨_, o1, o2, _, _, _⟩ := (H5.out.blk 0 rfl).three
            have hs5 := HS5.out
            have ha5 : a5 ≤ 60 := by omega
            have hs60 : s5 ≤ 60 := by omega
            have f1 : ((a5 : Int) + (s5 : Int) != (ql : Int)) = false := by rw [bne_eq_false_iff_eq]; omega
            go_upto_region 32 with fail
            have H6 := Lib.hid (show St w w6 (woL bb (ltX E [] n) pb ++ (woL ba (ltX E [] n) pa ++ ltR ma Y.en.al D la nl lc V)) from H5.out.rest)
            clear o1 o2 H5 f1 hs5 HS5 ha5 hs60
            have hm8 : m ≤ 8 := hdl
            go_wp2_with fail
            go_loopg [23] nl (fun g v23 wr => LoopC w ba bb ma n pa pb E Y.en D la nl lc V nl g v23 wr)
            case atStart => exact ⟨0, by omega, rfl, H6.out⟩
            case round =>
              obtain ⟨j, hj, rfl, hst⟩ := hrel
              clear H6
              have HJ := Lib.hid hj
              have HST := Lib.hid hst
              clear hj hst
              by_cases hlt : j < nl
              · have e1 : decide ((j : Int) < (nl : Int)) = true := decide_eq_true (by omega)
                obtain ⟨⟨hi, hgn⟩, hv⟩ : ∃ z, V[j]? = some z := ⟨_, List.getElem?_eq_getElem (by rw [HNL.out]; exact hlt)⟩
                have HVJ := Lib.hid hv
                have HLT := Lib.hid hlt
                clear hv
                go_wp2_with fail
                clear e1
                go_loopg [24] m (fun g v24 wr => LoopC w ba bb ma n pa pb E Y.en D la nl lc V m g v24 wr)
                case atStart => exact ⟨0, by omega, rfl, HST.out⟩
                case round =>
                  obtain ⟨c, hc, rfl, hst⟩ := hrel
                  clear HST
                  have HC := Lib.hid hc
                  have HST := Lib.hid hst
                  obtain ⟨sa, sc, c1⟩ := lt_c1 (P := woL bb (ltX E [] n) pb ++ woL ba (ltX E [] n) pa) (by rw [List.append_assoc]; exact hst)
                  rw [HM.out] at c1
                  clear hc
                  by_cases hcm : c < m
                  · have e1 : decide ((c : Int) < (m : Int)) = true := decide_eq_true (by omega)
                    have e2 : decide (nl ≤ j) = false := decide_eq_false (by omega)
                    obtain ⟨bo, oo, hsl, x0, x1⟩ := lt_hd (P := woL bb (ltX E [] n) pb ++ woL ba (ltX E [] n) pa) (by rw [List.append_assoc]; exact hst) HVJ.out
                    subst hsl
                    have HGa := Lib.hid (fun (w' : World) (R : List Asr) (H : St w w' (woL ba (ltX E [] n) pa ++ R)) => lt_get H HIE.out (by omega) hi hgn c (by rw [List.length_map, HM.out]; exact hcm))
                    have HGb := Lib.hid (fun (w' : World) (R : List Asr) (H : St w w' (woL bb (ltX E [] n) pb ++ R)) => lt_get H HIE.out (by omega) hi hgn c (by rw [List.length_map, HM.out]; exact hcm))
                    rw [show (ltX E [] n).en = E from rfl] at HGa HGb
                    obtain ⟨⟨vk, va, vb⟩, hv⟩ : ∃ z, getV E hi hgn c = z := ⟨_, rfl⟩
                    obtain ⟨er, her⟩ : ∃ z, getE E hi hgn c = z := ⟨_, rfl⟩
                    rw [hv, her] at HGa HGb
                    unfold ptr hdV VV.val at HGa HGb
                    simp only at HGa HGb
                    have HCM := Lib.hid hcm
                    have heq := fun w => ne_value w vk va vb
                    clear hst hv her
                    go_upto_region 39 with (go_at_call 31; refine (HGa.out _ _ (St.exch HST.out)).mono ?_; rintro e w7 ⟨rfl, hk7⟩; have H7 := Lib.hid ((HST.out.keep hk7).box0 #[.int .i64 vk, .int .i64 va, .int .i64 vb] 34); clear hk7 HST HGa c1 x0 x1)
                    obtain ⟨vx, hvx⟩ : ∃ b, w7.heap.size = b := ⟨_, rfl⟩
                    obtain ⟨w8, hw8⟩ : ∃ w, w7.alloc (.cells #[.int .i64 vk, .int .i64 va, .int .i64 vb] 34) = w := ⟨_, rfl⟩
                    rw [hvx, hw8] at H7
                    rw [hvx, hw8]
                    clear hvx hw8
                    obtain ⟨x0, x1⟩ := lt_hd2 (P := blkA vx #[.int .i64 vk, .int .i64 va, .int .i64 vb] 34 :: (woL bb (ltX E [] n) pb ++ woL ba (ltX E [] n) pa)) (by rw [List.cons_append, List.append_assoc]; exact H7.out) HVJ.out
                    go_upto_region 40 with (go_at_call 31; refine (HGb.out _ _ (St.exch (B := [blkA vx #[.int .i64 vk, .int .i64 va, .int .i64 vb] 34]) H7.out)).mono ?_; rintro e w9 ⟨rfl, hk9⟩; have H9 := Lib.hid ((H7.out.keep hk9).box0 #[.int .i64 vk, .int .i64 va, .int .i64 vb] 34); clear hk9 H7 HGb x0 x1)
                    obtain ⟨vy, hvy⟩ : ∃ b, w9.heap.size = b := ⟨_, rfl⟩
                    obtain ⟨w10, hw10⟩ : ∃ w, w9.alloc (.cells #[.int .i64 vk, .int .i64 va, .int .i64 vb] 34) = w := ⟨_, rfl⟩
                    rw [hvy, hw10] at H9
                    rw [hvy, hw10]
                    clear hvy hw10 e1 e2
                    obtain ⟨x0, x1, x2, _, _, _⟩ := (H9.out.blk 0 rfl).three
                    obtain ⟨z0, z1, z2, _, _, _⟩ := (H9.out.blk 1 (b := vx) (cs := #[.int .i64 vk, .int .i64 va, .int .i64 vb]) (t := 34) rfl).three
                    go_wp2_with fail
                    go_roundg (m - (c + 1))
                    case measure => have := HC.out; have := HCM.out; omega
                    case rel => exact ⟨c + 1, by have := HC.out; have := HCM.out; omega, by go_num, H9.out.rest.rest⟩
                  · have e1 : decide ((c : Int) < (m : Int)) = false := decide_eq_false (by omega)
                    clear hst
                    go_wp2_with fail
                    go_roundg (nl - (j + 1))
                    case measure => have := HJ.out; have := HLT.out; omega
                    case rel => exact ⟨j + 1, by have := HJ.out; have := HLT.out; omega, by go_num, HST.out⟩
              · have e1 : decide ((j : Int) < (nl : Int)) = false := decide_eq_false (by omega)
                go_wp2_with (go_at_call 9; refine (top_awake (HT.out.st HST.out)).mono ?_; rintro e w9 ⟨rfl, hk9⟩; have H9 := Lib.hid (HST.out.keep hk9); clear hk9 HST)
                go_ret
                exact ⟨rfl, H9.out.bel⟩
end Go.Proofs.YtkiikblpgppmkaaGreatDoor
