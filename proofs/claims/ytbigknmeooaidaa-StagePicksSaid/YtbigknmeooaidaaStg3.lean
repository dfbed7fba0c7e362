/-
  The packages slices and stage: a copy, a deletion; a row of all, as picks tell.
-/
import Derived.Test.YtbigknmeooaidaaStg2
import Derived.Test.YtbigknmeooaidaaShelf
namespace Go.Proofs.Ytbigknmeooaidaa
open Go Go.RowKit
set_option linter.unusedVariables false
set_option linter.unusedSimpArgs false

set_option maxHeartbeats 400000 in
theorem clone_ints (v : Value) (n : Nat) (xs : List Value) (w : World) (S : Nat → Prop) (h : Rd S w v n xs) (hl : xs.length = n * 1) (hone : ∀ u ∈ xs, u.oneCell' = true) (hb : n * 8 ≤ 140737488355328) :
    Calls Try.prog 38 #[v] w (RetOwn w 3 1 xs) := by
  have hmx : 0 + n ≤ maxLen := by unfold maxLen; omega
  have hbb : (0 + n) * 8 ≤ 140737488355328 := by omega
  obtain ⟨a, c, rfl, h1, h2, h3, h4⟩ := id h
  have hnil := fun w' => Lib.run_eql_slice_nil (P := Try.prog) w' 23 3 a n c 0 0 Try.underlying23
  clear h1 h2 h4
  cases a with
  | none =>
    obtain ⟨hn, hc⟩ := h3 rfl
    clear h3
    subst hn
    subst hc
    have hx : xs = [] := List.eq_nil_of_length_eq_zero (by simpa using hl)
    subst hx
    clear hl hone hb hmx hbb
    simp only [Option.isNone_none] at hnil
    go_enter Try.func38, Try.ntmps38
    go_wp2_with fail
    go_ret
    exact ⟨_, _, _, rfl, Own.nil _ _ _ _, Keep.refl _ _⟩
  | some ad =>
    clear h3
    simp only [Option.isNone_some] at hnil
    have HL := Lib.hid hl; clear hl
    have HO := Lib.hid hone; clear hone
    go_enter Try.func38, Try.ntmps38
    go_wp2_with (at_builtin; refine wpList_app (P := Try.prog) slInt rfl _ _ rfl (S := fun i => w.heap.size ≤ i) (S2 := S) (n := 0) (xs := []) (m := n) (news := xs) rfl rfl ?hown ?hx ?hl ?h1 hbb hmx ?_)
    case hown => exact Own.lit w _ 1 0 #[] (Nat.zero_le _) rfl (Nat.le_refl _)
    case hx => exact h.alloc _
    case hl => exact HL.out
    case h1 => exact HO.out
    rintro a' k c' w1 ⟨ho, _, hk1, _⟩
    clear hnil h hbb hmx hb
    have HO1 := Lib.hid ho; clear ho
    have HK := Lib.hid hk1; clear hk1
    go_wp2_with fail
    go_ret
    exact ⟨_, _, _, rfl, (HO1.out.mono (fun i h => h.elim id (fun h => by have := h.1; simp at this; omega))).new, (Keep.alloc (Keep.refl w Nope) _).trans HK.out (fun i h => .inr h)⟩


def setL (xs : List Value) (o : Nat) : List Value → List Value
  | [] => xs
  | v :: r => setL (xs.set o v) (o + 1) r
theorem setL_eq : ∀ (vs xs : List Value) (o : Nat), o + vs.length ≤ xs.length → setL xs o vs = xs.take o ++ vs ++ xs.drop (o + vs.length)
  | [], xs, o, _ => by simp [setL]
  | v :: r, xs, o, h => by
    rw [List.length_cons] at h
    rw [setL, setL_eq r (xs.set o v) (o + 1) (by rw [List.length_set]; omega), List.take_add_one, List.getElem?_set_self (by omega), List.take_set_of_le (by omega), List.drop_set_of_lt (by omega), List.length_cons]
    rw [show o + 1 + r.length = o + (r.length + 1) by omega]
    simp
theorem St.setCells {w0 : World} {g e' n c : Nat} {e : TypeId} {i : Nat} (hn : 0 < n) : ∀ (vs : List Value) (o : Nat) (w : World) (L : List Asr) (xs : List Value), St w0 w L → L[i]? = some (slA e e' (.slice (some ⟨g, 0, none⟩) n c) n xs) → St w0 (w.setCells g o vs) (L.set i (slA e e' (.slice (some ⟨g, 0, none⟩) n c) n (setL xs o vs)))
  | [], o, w, L, xs, h, hi => by
    rw [setL]
    have : L.set i (slA e e' (.slice (some ⟨g, 0, none⟩) n c) n xs) = L := by
      apply List.ext_getElem?
      intro j
      by_cases e : i = j
      · subst e; rw [List.getElem?_set_self (List.getElem?_eq_some_iff.1 hi).1, hi]
      · rw [List.getElem?_set_ne e]
    rw [this]
    exact h
  | v :: r, o, w, L, xs, h, hi => by
    obtain ⟨g', he, _, _, _, hs⟩ := h.store i hi hn
    injection he with he
    injection he with he
    subst he
    have h1 := hs o v
    have h2 := St.setCells hn r (o + 1) _ _ _ h1 (List.getElem?_set_self (List.getElem?_eq_some_iff.1 hi).1)
    rw [List.set_set] at h2
    exact h2

/-- A number is taken out of a row of the call's own. -/
theorem del_int {w0 w : World} {L : List Asr} {a : Option Addr} {n c k : Nat} {xs : List Int} (H : St w0 w L) (p : Nat) (hp : L[p]? = some (slA 3 1 (.slice a n c) n (ints xs))) (hl : xs.length = n) (hk : k < n) :
    Calls Try.prog 39 #[.slice a n c, .int .i64 (k : Int), .int .i64 ((k + 1 : Nat) : Int)] w (fun e w' => e = .returned (.slice a (n - 1) c) ∧ St w0 w' (L.set p (slA 3 1 (.slice a (n - 1) c) (n - 1) (ints (xs.eraseIdx k))))) := by
  obtain ⟨g, rfl, hgl, hgf, hgc, _⟩ := H.store p hp (by omega)
  obtain ⟨_, ho, _⟩ := H.rd p hp
  have hcap := ho.cap
  unfold maxLen at hcap
  refine (Try.slices_Delete_int_cells g 0 n c k (k + 1) xs w (by omega) hcap.1 (by omega) (by omega) (by omega) (fun j hj => ?_) (fun j hj => by rw [Nat.zero_add]; exact hgf j)).mono ?_
  · rw [Nat.zero_add, hgc j (by omega), ints_get (List.getElem?_eq_getElem hj)]
    rw [List.getD_eq_getElem?_getD, List.getElem?_eq_getElem hj]
    rfl
  · rintro e w' ⟨rfl, q, rfl⟩
    refine ⟨by rw [show k + 1 - k = 1 by omega], ?_⟩
    have h1 := St.setCells (by omega) (((xs.take n).take k ++ (xs.take n).drop (k + 1) ++ List.replicate (k + 1 - k) 0).map (Value.int .i64)) 0 _ _ _ (H.drewN q) hp
    have hpl := (List.getElem?_eq_some_iff.1 hp).1
    have h2 := h1.cut p (List.getElem?_set_self hpl) (n - 1) (by omega)
    rw [List.set_set] at h2
    have hx : xs.take n = xs := List.take_of_length_le (by omega)
    have he : ∀ vs : List Value, vs.length = (ints xs).length → setL (ints xs) 0 vs = vs := fun vs hv => by
      rw [setL_eq vs (ints xs) 0 (by omega)]
      simp [hv]
    rw [he _ (by simp [ints_len, hx]; omega), hx, show k + 1 - k = 1 by omega, Nat.mul_one] at h2
    have hfin : ((xs.take k ++ xs.drop (k + 1) ++ List.replicate 1 0).map (Value.int .i64)).take (n - 1) = ints (xs.eraseIdx k) := by
      rw [List.eraseIdx_eq_take_drop_succ, List.map_append]
      rw [List.take_left' (by simp; omega)]
      rfl
    rw [hfin] at h2
    rw [hx, show k + 1 - k = 1 by omega]
    exact h2

/-! What 'Pick' does. -/
structure PkS where
  out : List Int
  left : List Int
  p : List Int
def pkI (left : List Int) (p : List Int) : Nat := match p with
  | [] => 0
  | x :: _ => ((x.tmod left.length + left.length) % left.length).toNat
def stepP (s : PkS) : PkS := ⟨s.out ++ [s.left.getD (pkI s.left s.p) 0], s.left.eraseIdx (pkI s.left s.p), s.p.tail⟩
def iterP : Nat → PkS → PkS
  | 0, s => s
  | n + 1, s => iterP n (stepP s)
def pkAll : List (List Int) → List Int → List Int → List Int
  | [], _, out => out
  | r :: rs, p, out => pkAll rs (iterP r.length ⟨out, r, p⟩).p (iterP r.length ⟨out, r, p⟩).out
theorem tmod_lt (x : Int) (m : Nat) (hm : 0 < m) : -(m : Int) < x.tmod m ∧ x.tmod m < m := by
  have h1 := Int.natAbs_tmod x m
  have h2 : x.natAbs % (m : Int).natAbs < m := Nat.mod_lt _ hm
  omega
theorem pkI_lt (left p : List Int) (h : 0 < left.length) : pkI left p < left.length := by
  unfold pkI
  split
  · exact h
  · rename_i x t
    have h1 := Int.emod_lt_of_pos (x.tmod left.length + left.length) (show (0 : Int) < left.length by omega)
    have h2 := Int.emod_nonneg (x.tmod left.length + left.length) (show (left.length : Int) ≠ 0 by omega)
    omega
theorem stepP_left (s : PkS) (h : 0 < s.left.length) : (stepP s).left.length + 1 = s.left.length := by
  have := pkI_lt s.left s.p h
  unfold stepP
  simp only
  rw [List.length_eraseIdx, if_pos this]
  omega

def LoopP1 (w : World) (S2 : Nat → Prop) (rs : List RowV) (F : List Int) (g : Nat) (v1 v5 v12 : Value) (wr : World) : Prop :=
  ∃ (t m k : Nat) (a1 ao : Option Addr) (c1 co : Nat) (p out : List Int), g + t = rs.length ∧ v12 = .int .i64 t ∧ p.length = m ∧ v1 = .slice a1 m c1 ∧ Rd S2 w (.slice a1 m c1) m (ints p) ∧ out.length = k ∧ v5 = .slice ao k co ∧ pkAll ((rs.drop t).map RowV.l) p out = F ∧ out.length ≤ t * 1000000 ∧ St w wr [slA 3 1 (.slice ao k co) k (ints out)]
def LoopP2 (w : World) (S2 : Nat → Prop) (F : PkS) (B : Nat) (g : Nat) (v1 v5 v8 : Value) (wr : World) : Prop :=
  ∃ (j m k : Nat) (a1 ao al : Option Addr) (c1 co cl : Nat) (s : PkS), g = j ∧ s.left.length = j ∧ v8 = .slice al j cl ∧ s.p.length = m ∧ v1 = .slice a1 m c1 ∧ Rd S2 w (.slice a1 m c1) m (ints s.p) ∧ s.out.length = k ∧ v5 = .slice ao k co ∧ iterP j s = F ∧ s.out.length + j ≤ B ∧ St w wr [slA 3 1 (.slice ao k co) k (ints s.out), slA 3 1 (.slice al j cl) j (ints s.left)]

set_option maxRecDepth 3000 in
set_option maxHeartbeats 4000000 in
theorem stage_pick (v v2 : Value) (rs : List RowV) (picks : List Int) (w : World) (S S2 : Nat → Prop) (h : RdRows S w v rs) (h2 : Rd S2 w v2 picks.length (ints picks)) (hr : ∀ r, r ∈ rs → r.l.length ≤ 1000000) (hrs : rs.length ≤ 1000000) :
    Calls Try.prog 16 #[v, v2] w (RetOwn w 3 1 (ints (pkAll (rs.map RowV.l) picks []))) := by
  obtain ⟨va, vc, rfl, g1, g2, g3, g4⟩ := id h.rd
  clear g3 g4
  obtain ⟨pa, pc, rfl, q1, q2, q3, q4⟩ := id h2
  clear q3 q4
  have H := Lib.hid h
  have HP := Lib.hid h2
  have HR := Lib.hid hr
  obtain ⟨F, hF⟩ : ∃ F, pkAll (rs.map RowV.l) picks [] = F := ⟨_, rfl⟩
  rw [hF]
  have HF := Lib.hid hF
  obtain ⟨pn, hpn⟩ : ∃ pn, picks.length = pn := ⟨_, rfl⟩
  rw [hpn] at HP ⊢
  have HPN := Lib.hid hpn
  unfold maxLen at g2
  clear h h2 hr hF hpn q1 q2
  go_enter Try.func16, Try.ntmps16
  go_wp2_with fail
  go_loopg [1, 5, 12] rs.length (fun g v1 v5 v12 wr => LoopP1 w S2 rs F g v1 v5 v12 wr)
  case atStart => exact ⟨0, pn, 0, _, none, _, 0, picks, [], by omega, rfl, HPN.out, rfl, HP.out, rfl, rfl, HF.out, by simp, (St.start w).add (Keep.refl _ _) (A := slA 3 1 (.slice none 0 0) 0 []) (Own.nil _ _ _ _)⟩
  case round =>
    obtain ⟨t, m, k, a1, ao, c1, co, p, out, ht, rfl, hm, rfl, hrp, hk, rfl, hpk, hob, hst⟩ := hrel
    have htn : t ≤ rs.length := by omega
    have HT := Lib.hid ht; clear ht
    have HM := Lib.hid hm; clear hm
    have HRP := Lib.hid hrp; clear hrp
    have HK := Lib.hid hk
    have HPK := Lib.hid hpk; clear hpk
    have H3 := Lib.hid hst; clear hst
    by_cases hlt : t < rs.length
    · obtain ⟨r, hr⟩ : ∃ r, rs[t]? = some r := ⟨_, List.getElem?_eq_getElem hlt⟩
      obtain ⟨bo, oo, rfl, _, hc0, hrr⟩ := (H.out.keep0 (Keep.ofSt H3.out)).get hr
      have hrb := HR.out r (List.mem_of_getElem? hr)
      have hdr : (rs.drop t).map RowV.l = r.l :: (rs.drop (t + 1)).map RowV.l := by
        rw [List.drop_eq_getElem_cons hlt, List.map_cons]
        rw [List.getElem?_eq_getElem hlt] at hr
        injection hr with hr
        rw [hr]
      have hpk := HPK.out
      rw [hdr, pkAll] at hpk
      have HPK2 := Lib.hid hpk
      have HC := Lib.hid (clone_ints r.v r.l.length (ints r.l) wr S hrr (by rw [ints_len, Nat.mul_one]) (ints_one _) (by omega))
      obtain ⟨ra, rc, rl⟩ := r
      simp only at hc0 hrb HPK2
      unfold RowV.v at HC
      simp only at HC
      obtain ⟨n, hn⟩ : ∃ n, rl.length = n := ⟨_, rfl⟩
      rw [hn] at hc0 hrb HPK2 HC
      have HN := Lib.hid hn
      have hti : (t : Int) < rs.length := by omega
      have htd : decide ((t : Int) < rs.length) = true := decide_eq_true hti
      obtain ⟨FF, hFF⟩ : ∃ FF, iterP n ⟨out, rl, p⟩ = FF := ⟨_, rfl⟩
      rw [hFF] at HPK2
      have HFF := Lib.hid hFF
      clear hr hrr hdr hpk hn hFF HPK
      go_wp2_with fail
      refine HC.out.mono ?_
      rintro e w5 ⟨al, nl, cl, rfl, hown, hk5⟩
      have hlen := hown.len
      rw [ints_len, HN.out, Nat.mul_one] at hlen
      have e1 : nl = n := by omega
      rw [e1] at hown
      rw [e1]
      have H5 := Lib.hid (show St w w5 [slA 3 1 (.slice ao k co) k (ints out), slA 3 1 (.slice al n cl) n (ints rl)] from H3.out.add hk5 (A := slA 3 1 (.slice al n cl) n (ints rl)) hown)
      clear hown hk5 hlen e1 HC H3
      go_wp2_with fail
      go_loopg [1, 5, 8] n (fun g v1 v5 v8 wr => LoopP2 w S2 FF (out.length + n) g v1 v5 v8 wr)
      case atStart => exact ⟨n, m, k, a1, ao, al, c1, co, cl, ⟨out, rl, p⟩, rfl, HN.out, rfl, HM.out, rfl, HRP.out, HK.out, rfl, HFF.out, Nat.le_refl _, H5.out⟩
      case round =>
        obtain ⟨j, m2, k2, a2, ao2, al2, c2, co2, cl2, s, hgj, hj, rfl, hm2, rfl, hrp2, hk2, rfl, hit, hob2, hst⟩ := hrel
        have hgj := hgj.symm
        subst hgj
        clear H5 hc0
        have HJ := Lib.hid hj; clear hj
        have HM2 := Lib.hid hm2; clear hm2
        have HRP2 := Lib.hid hrp2; clear hrp2
        have HK2 := Lib.hid hk2
        have HIT := Lib.hid hit; clear hit
        have H4 := Lib.hid hst; clear hst
        by_cases hj0 : 0 < j
        · obtain ⟨so, sl, sp⟩ := s
          have hjI : (0 : Int) < j := by omega
          have hjd : decide ((j : Int) > 0) = true := decide_eq_true hjI
          have hjd2 : decide ((0 : Int) < j) = true := decide_eq_true hjI
          obtain ⟨ki, hki⟩ : ∃ ki, pkI sl sp = ki := ⟨_, rfl⟩
          have hkl : ki < j := by
            have h1 : sl.length = j := HJ.out
            have := pkI_lt sl sp (by omega)
            omega
          have hit := HIT.out
          rw [show j = (j - 1) + 1 by omega, iterP] at hit
          unfold stepP at hit
          simp only [hki] at hit
          obtain ⟨lv, hlv⟩ : ∃ lv, sl[ki]? = some lv := ⟨_, List.getElem?_eq_getElem (by have h1 : sl.length = j := HJ.out; omega)⟩
          rw [getD_of hlv] at hit
          have HIT2 := Lib.hid hit
          have HKI := Lib.hid hki
          have HLV := Lib.hid hlv
          obtain ⟨G0, _, hrd0, _⟩ := H4.out.rd 1 rfl
          obtain ⟨bl, ol, ⟨c', hv⟩, _, hcl⟩ := (show Rd G0 wr (.slice al2 j cl2) j (ints sl) from hrd0).int hlv
          injection hv with hv1 hv2 hv3
          subst hv1; subst hv3; clear hv2 hrd0
          obtain ⟨G, hown, _, hup, _⟩ := H4.out.opens 0 rfl
          have HOwn : Hid (Own G wr 3 1 (.slice ao2 k2 co2) k2 (ints so)) := Lib.hid hown
          have HUP := Lib.hid hup
          have hkj : (ki : Int) < j := by omega
          have hk2b : k2 ≤ 100000000000000000 := by
            have h1 : so.length = k2 := hk2
            simp only at hob2
            omega
          have hk2c : (k2 + 1) * 8 ≤ 140737488355328 := by
            have h1 : so.length = k2 := hk2
            simp only at hob2
            omega
          have hw1 : IntKind.i64.wrap ((ki : Int) + 1) = ((ki + 1 : Nat) : Int) := by rw [IntWalk.i64_in _ (by omega)]; rfl
          clear hown hup hit hki hlv HIT
          cases sp with
          | nil =>
            have hm0 : m2 = 0 := HM2.out.symm
            have hk0 : ki = 0 := HKI.out.symm
            subst hm0; subst hk0
            have hmd : decide (((0 : Nat) : Int) > 0) = false := by decide
            simp only [Nat.add_zero] at hcl
            go_upto_region 11 with (fail)
            go_wp2_with (at_builtin; refine wpList_app (P := Try.prog) slInt rfl _ _ rfl (S := G) (S2 := fun z => z = wr.heap.size) (n := k2) (xs := ints so) (m := 1) (news := ints [lv]) rfl rfl ?_ ?_ ?_ ?_ ?_ ?_ ?_)
            · exact HOwn.out.keep (T := Nope) ((Keep.refl wr Nope).alloc _) (fun _ _ f => f)
            · exact rd_one wr lv
            · rfl
            · exact ints_one _
            · unfold maxLen; omega
            rintro a' k' c' w5 happ
            obtain ⟨z1, z2⟩ := app_up (wr := wr) ((Keep.refl wr Nope).alloc _) happ
            obtain rfl := happ.num
            have h5 := HUP.out w5 _ z1 z2
            rw [← ints_app] at h5
            have H5 := Lib.hid (show St w w5 [slA 3 1 (.slice a' (k2 + 1) c') (k2 + 1) (ints (so ++ [lv])), slA 3 1 (.slice (some ⟨bl, ol, none⟩) j cl2) j (ints sl)] from h5)
            have HD := Lib.hid (show Calls Try.prog 39 #[.slice (some ⟨bl, ol, none⟩) j cl2, .int .i64 0, .int .i64 1] w5 (fun e w' => e = .returned (.slice (some ⟨bl, ol, none⟩) (j - 1) cl2) ∧ St w w' [slA 3 1 (.slice a' (k2 + 1) c') (k2 + 1) (ints (so ++ [lv])), slA 3 1 (.slice (some ⟨bl, ol, none⟩) (j - 1) cl2) (j - 1) (ints (sl.eraseIdx 0))]) from del_int H5.out 1 rfl HJ.out hkl)
            have HLE := Lib.hid (show (sl.eraseIdx 0).length = j - 1 by rw [List.length_eraseIdx, if_pos (by have h1 : sl.length = j := HJ.out; omega)]; have h1 : sl.length = j := HJ.out; omega)
            have HSO := Lib.hid (show (so ++ [lv]).length = k2 + 1 by have h1 : so.length = k2 := HK2.out; rw [List.length_append, h1]; rfl)
            clear happ z1 z2 h5 hcl
            go_wp2_with fail
            refine HD.out.mono ?_
            rintro e w6 ⟨rfl, hst⟩
            have H6 := Lib.hid hst
            clear hst HD H5
            go_wp2_with fail
            go_roundg (j - 1)
            case measure => omega
            case rel => exact ⟨j - 1, 0, k2 + 1, a2, a', _, c2, c', cl2, ⟨so ++ [lv], sl.eraseIdx 0, []⟩, rfl, HLE.out, rfl, rfl, rfl, HRP2.out, HSO.out, rfl, HIT2.out, by simp only [HSO.out]; have h1 : so.length = k2 := HK2.out; (try simp only at hob2); omega, H6.out⟩
          | cons x pt =>
            have hm1 : pt.length + 1 = m2 := HM2.out
            obtain ⟨bp, op, ⟨c', hv⟩, _, hcx⟩ := (HRP2.out.keep (Keep.ofSt H4.out) (fun _ _ f => f)).int (k := 0) (x := x) rfl
            injection hv with hv1 hv2 hv3
            subst hv1; subst hv3; clear hv2
            have hcapp : m2 ≤ c2 := by obtain ⟨_, _, e, e1, e2, _⟩ := HRP2.out; injection e with e3 e4 e5; omega
            have hcut := cutL_of 1 (some ⟨bp, op, none⟩) m2 c2 1 (by omega) hcapp
            have HPM := Lib.hid (show pt.length = m2 - 1 by omega)
            have hsl : sl.length = j := HJ.out
            obtain ⟨tb1, tb2⟩ := tmod_lt x j hj0
            obtain ⟨t1, ht1⟩ : ∃ t1, x.tmod (j : Int) = t1 := ⟨_, rfl⟩
            rw [ht1] at tb1 tb2
            have hkk : (t1 + (j : Int)) % (j : Int) = (ki : Int) := by
              have h1 := HKI.out
              unfold pkI at h1
              simp only [hsl, ht1] at h1
              have h2 := Int.emod_nonneg (t1 + (j : Int)) (show (j : Int) ≠ 0 by omega)
              omega
            have hkt : (t1 + (j : Int)).tmod (j : Int) = (ki : Int) := by rw [Int.tmod_eq_emod_of_nonneg (by omega)]; exact hkk
            have hmd : decide ((m2 : Int) > 0) = true := decide_eq_true (by omega)
            have hmd2 : decide ((0 : Int) < (m2 : Int)) = true := decide_eq_true (by omega)
            have hm2I : (0 : Int) < m2 := by omega
            have hjne : ((j : Int) == 0) = false := by simp; omega
            simp only [Nat.add_zero] at hcx
            clear hsl HKI
            by_cases hc1 : c2 = 1
            all_goals
              first
              | (rw [if_pos hc1] at hcut)
              | (rw [if_neg hc1] at hcut)
              have HPR := Lib.hid (hcut.rd S2 w (ints (x :: pt)) (by rw [ints_len, Nat.mul_one]; exact hm1) HRP2.out)
              clear hcut hm1
              first
              | (subst hc1)
              | skip
              go_upto_region 11 with (fail)
              go_wp2_with (at_builtin; refine wpList_app (P := Try.prog) slInt rfl _ _ rfl (S := G) (S2 := fun z => z = wr.heap.size) (n := k2) (xs := ints so) (m := 1) (news := ints [lv]) rfl rfl ?_ ?_ ?_ ?_ ?_ ?_ ?_)
              · exact HOwn.out.keep (T := Nope) ((Keep.refl wr Nope).alloc _) (fun _ _ f => f)
              · exact rd_one wr lv
              · rfl
              · exact ints_one _
              · unfold maxLen; omega
              rintro a' k' c' w5 happ
              obtain ⟨z1, z2⟩ := app_up (wr := wr) ((Keep.refl wr Nope).alloc _) happ
              obtain rfl := happ.num
              have h5 := HUP.out w5 _ z1 z2
              rw [← ints_app] at h5
              have H5 := Lib.hid (show St w w5 [slA 3 1 (.slice a' (k2 + 1) c') (k2 + 1) (ints (so ++ [lv])), slA 3 1 (.slice (some ⟨bl, ol, none⟩) j cl2) j (ints sl)] from h5)
              have HD := Lib.hid (show Calls Try.prog 39 #[.slice (some ⟨bl, ol, none⟩) j cl2, .int .i64 (ki : Int), .int .i64 ((ki + 1 : Nat) : Int)] w5 (fun e w' => e = .returned (.slice (some ⟨bl, ol, none⟩) (j - 1) cl2) ∧ St w w' [slA 3 1 (.slice a' (k2 + 1) c') (k2 + 1) (ints (so ++ [lv])), slA 3 1 (.slice (some ⟨bl, ol, none⟩) (j - 1) cl2) (j - 1) (ints (sl.eraseIdx ki))]) from del_int H5.out 1 rfl HJ.out hkl)
              have HLE := Lib.hid (show (sl.eraseIdx ki).length = j - 1 by rw [List.length_eraseIdx, if_pos (by have h1 : sl.length = j := HJ.out; omega)]; have h1 : sl.length = j := HJ.out; omega)
              have HSO := Lib.hid (show (so ++ [lv]).length = k2 + 1 by have h1 : so.length = k2 := HK2.out; rw [List.length_append, h1]; rfl)
              clear happ z1 z2 h5 hcl
              go_wp2_with fail
              refine HD.out.mono ?_
              rintro e w6 ⟨rfl, hst⟩
              have H6 := Lib.hid hst
              clear hst HD H5
              go_wp2_with fail
              go_roundg (j - 1)
              case measure => omega
              case rel => exact ⟨j - 1, m2 - 1, k2 + 1, _, a', _, _, c', cl2, ⟨so ++ [lv], sl.eraseIdx ki, pt⟩, rfl, HLE.out, rfl, HPM.out, (by first | rfl | (rw [show m2 - 1 = 0 by omega])), HPR.out, HSO.out, rfl, HIT2.out, by simp only [HSO.out]; have h1 : so.length = k2 := HK2.out; (try simp only at hob2); omega, H6.out⟩
        · obtain rfl : j = 0 := by omega
          have hjd : decide (((0 : Nat) : Int) > 0) = false := by decide
          have hjd2 : decide ((0 : Int) < ((0 : Nat) : Int)) = false := by decide
          have hit := HIT.out
          rw [iterP] at hit
          subst hit
          go_wp2_with fail
          go_roundg (rs.length - (t + 1))
          case measure => have := HT.out; omega
          case rel => exact ⟨t + 1, m2, k2, a2, ao2, c2, co2, s.p, s.out, by omega, by go_num, HM2.out, rfl, HRP2.out, HK2.out, rfl, HPK2.out, by omega, H4.out.take 1⟩
    · obtain rfl : t = rs.length := by omega
      have htd : decide (((rs.length : Nat) : Int) < rs.length) = false := decide_eq_false (by omega)
      have hF := HPK.out
      rw [List.drop_length, List.map_nil, pkAll] at hF
      have HO := Lib.hid hF
      clear hF
      go_wp2_with fail
      go_ret
      obtain ⟨G, hG, hG2⟩ := H3.out.get 0 rfl
      rw [HO.out] at hG
      exact ⟨_, _, _, rfl, Own.mono hG hG2, Keep.ofSt H3.out⟩
end Go.Proofs.Ytbigknmeooaidaa
