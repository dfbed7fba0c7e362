/-
  StageChain: systems that all write one thing are done one by one.
-/
import Derived.Test.YtbigknmeooaidaaStg4
namespace Go.Proofs.Ytbigknmeooaidaa
open Go Go.RowKit
set_option linter.unusedVariables false
set_option linter.unusedSimpArgs false

theorem lev_dep {d d2 : Nat → Nat → Bool} {out : List Nat} {i : Nat} : ∀ (ks : List Nat) (m : Nat), (∀ k, k ∈ ks → d i k = d2 i k) → lev d out ks i m = lev d2 out ks i m
  | [], m, _ => rfl
  | k :: ks, m, h => by
    show lev d out ks i (if d i k = true then max m (out.getD k 0 + 1) else m) = lev d2 out ks i (if d2 i k = true then max m (out.getD k 0 + 1) else m)
    rw [h k (List.mem_cons_self ..)]
    exact lev_dep ks _ (fun k hk => h k (List.mem_cons_of_mem _ hk))
theorem stK_dep {d d2 : Nat → Nat → Bool} {o : List Nat} {n : Nat} (h : ∀ i k, i ∈ o → k ∈ o → d i k = d2 i k) : ∀ t, stK d o n t = stK d2 o n t
  | 0 => rfl
  | t + 1 => by
    rw [stK, stK, stK_dep h t]
    split
    · rename_i i hi
      rw [lev_dep _ _ (fun k hk => h i k (List.mem_of_getElem? hi) (List.mem_of_mem_take hk))]
    · rfl
theorem chain_plain : ∀ n, n < 41 → chk (List.replicate n []) = 0 ∧ ord (List.replicate n []) = List.range n ∧ grp (stg (fun _ _ => true) (List.range n) n) (List.range n) = (List.range n).map (fun i => [i]) := by
  have key : ((List.range 41).all fun n => decide (chk (List.replicate n []) = 0) && (decide (ord (List.replicate n []) = List.range n) && decide (grp (stg (fun _ _ => true) (List.range n) n) (List.range n) = (List.range n).map (fun i => [i])))) = true := by decide +kernel
  intro n hn
  have h := List.all_eq_true.1 key n (List.mem_range.2 hn)
  simpa using h
theorem pk_one (x : Int) (p out : List Int) : iterP 1 ⟨out, [x], p⟩ = ⟨out ++ [x], [], p.tail⟩ := by
  have h := pkI_lt [x] p (by simp)
  have h0 : pkI [x] p = 0 := by simp at h; exact h
  show iterP 0 (stepP ⟨out, [x], p⟩) = _
  rw [iterP]
  unfold stepP
  rw [h0]
  rfl
theorem pkAll_one : ∀ (xs p out : List Int), pkAll (xs.map (fun x => [x])) p out = out ++ xs
  | [], p, out => by simp [pkAll]
  | x :: xs, p, out => by
    rw [List.map_cons, pkAll]
    have e : ([x] : List Int).length = 1 := rfl
    rw [e, pk_one, pkAll_one xs]
    simp

def wA (x : SysX) : Asr := slA 3 1 x.w.v x.w.l.length (ints x.w.l)
def MadeX (v : Value) (l : List SysX) : List Asr := slA 35 8 v l.length (l.flatMap SysX.cells) :: l.map wA
def chainX (b : Addr) : SysX := ⟨nilR, ⟨some b, 1, [3]⟩, nilR, nilR, false, nilV, nilV, nilR⟩
theorem flatX_one (l : List SysX) : ∀ u ∈ l.flatMap SysX.cells, u.oneCell' = true := by
  intro u hu
  obtain ⟨o, _, ho⟩ := List.mem_flatMap.1 hu
  simp [SysX.cells, RowV.v, SlV.v] at ho
  rcases ho with rfl | rfl | rfl | rfl | rfl | rfl | rfl | rfl <;> rfl
theorem flatV (l : List SysX) : (l.map SysX.toV).flatMap SysV.cells = l.flatMap SysX.cells := by
  induction l with
  | nil => rfl
  | cons x t ih => rw [List.map_cons, List.flatMap_cons, List.flatMap_cons, ih]; rfl
theorem chain_rd {w wr : World} {v : Value} {l : List SysX} (h : St w wr (MadeX v l)) (hc : ∀ x, x ∈ l → ∃ b, x = chainX b) : RdSysX (fun z => w.heap.size ≤ z ∧ z < wr.heap.size) wr v l := by
  obtain ⟨_, G, k1, k2, k3⟩ := h
  have h0 := k1 0 _ rfl
  refine ⟨⟨?_, fun y hy => ?_⟩, fun x hx => ?_⟩
  · rw [flatV, List.length_map]
    exact (Own.rd h0).mono (k2 0)
  · obtain ⟨x, hx, rfl⟩ := List.mem_map.1 hy
    obtain ⟨b, rfl⟩ := hc x hx
    exact ⟨rfl, rd_nilR _ _⟩
  · obtain ⟨p, hp, rfl⟩ := List.getElem_of_mem hx
    have h1 := k1 (p + 1) (wA l[p]) (by unfold MadeX; simp [hp])
    have hw : Rd (fun z => w.heap.size ≤ z ∧ z < wr.heap.size) wr l[p].w.v l[p].w.l.length (ints l[p].w.l) := (Own.rd h1).mono (k2 _)
    obtain ⟨b, hb⟩ := hc _ hx
    rw [hb] at hw ⊢
    exact ⟨rd_nilR _ _, hw, rd_nilR _ _, rd_nilR _ _⟩

def LoopCh0 (w : World) (n : Nat) (g : Nat) (v5 v6 : Value) (wr : World) : Prop :=
  ∃ (i : Nat) (l : List SysX) (a : Option Addr) (c : Nat), g + i = n ∧ v6 = .int .i64 i ∧ l.length = i ∧ v5 = .slice a i c ∧ (∀ x, x ∈ l → ∃ b, x = chainX b) ∧ St w wr (MadeX (.slice a i c) l)
theorem chain_dep {l : List SysX} (hc : ∀ x, x ∈ l → ∃ b, x = chainX b) (i k : Nat) (hi : i < l.length) (hk : k < l.length) : depX l i k = true := by
  rw [depX_of (List.getElem?_eq_getElem hi) (List.getElem?_eq_getElem hk)]
  obtain ⟨b, hb⟩ := hc _ (List.getElem_mem hi)
  obtain ⟨b2, hb2⟩ := hc _ (List.getElem_mem hk)
  rw [hb, hb2]
  have : confB (chainX b) (chainX b2) = true := rfl
  rw [this, Bool.or_true]
theorem chain_aft {l : List SysX} (hc : ∀ x, x ∈ l → ∃ b, x = chainX b) : aftX l = List.replicate l.length [] := by
  unfold aftX
  rw [List.eq_replicate_iff]
  refine ⟨by simp, fun y hy => ?_⟩
  obtain ⟨x, hx, rfl⟩ := List.mem_map.1 hy
  obtain ⟨b, rfl⟩ := hc x hx
  rfl

set_option maxRecDepth 3000 in
set_option maxHeartbeats 4000000 in
theorem stageChain_walk (x : Int) (v : Value) (picks : List Int) (w : World) (S : Nat → Prop) (hv : Rd S w v picks.length (ints picks)) :
    Calls Try.prog 4 #[.int .i64 x, v] w (RetTrue w) := by
  obtain ⟨va, vc, rfl, g1, g2, g3, g4⟩ := id hv
  have hlen : picks.length ≤ 9223372036854775807 := by unfold maxLen at g2; omega
  clear g1 g2 g3 g4
  have HV := Lib.hid hv; clear hv
  have HS := Lib.hid (St.start w)
  obtain ⟨n, hn, hn1, hn2⟩ : ∃ n : Nat, (bits .and .i64 x 255).tmod 40 = (n : Int) - 1 ∧ 1 ≤ n ∧ n ≤ 40 := by
    have e : bits .and .i64 x 255 = x % 256 := by rw [and_mask x 8 255 (by decide) rfl]; rfl
    have h0 : 0 ≤ x % 256 := by omega
    rw [e, Int.tmod_eq_emod_of_nonneg h0]
    exact ⟨((x % 256) % 40 + 1).toNat, by omega, by omega, by omega⟩
  have hn3 : (n : Int) - 1 + 1 = n := by omega
  go_enter Try.func4, Try.ntmps4
  by_cases h100 : 100 < picks.length
  · have h100' : (100 : Int) < picks.length := by omega
    go_wp2_with fail
    refine (awake23 w).mono ?_
    rintro e w9 ⟨rfl, hk⟩
    have HK := Lib.hid (HS.out.keep hk)
    clear hk
    go_wp2_with fail
    go_ret
    exact HK.out.ret
  · have h100' : ¬ (100 : Int) < picks.length := by omega
    go_wp2_with fail
    clear hn hn3
    go_loopg [5, 6] n (fun g v5 v6 wr => LoopCh0 w n g v5 v6 wr)
    case atStart => exact ⟨0, [], none, 0, by omega, rfl, rfl, rfl, by simp, HS.out.add (Keep.refl _ _) (A := slA 35 8 (.slice none 0 0) 0 []) (Own.nil _ _ _ _)⟩
    case round =>
      obtain ⟨i, l, a, c, hg, rfl, hl, rfl, hc, hst⟩ := hrel
      have hin : i ≤ n := by omega
      have HG := Lib.hid hg; clear hg
      have HL := Lib.hid hl; clear hl
      have HC := Lib.hid hc; clear hc
      have H2 := Lib.hid hst; clear hst
      by_cases hlt : i < n
      · have hil : (i : Int) < n := by omega
        have hild : decide ((i : Int) < n) = true := decide_eq_true hil
        have hst2 := H2.out.lit 3 1 1 #[.int .i64 3] (by decide) rfl
        have H3 := Lib.hid hst2
        obtain ⟨G, hown, _, hup, _⟩ := H3.out.opens 0 rfl
        have HOwn : Hid (Own G (wr.alloc (.cells #[.int .i64 3] 3)) 35 8 (.slice a i c) i (l.flatMap SysX.cells)) := Lib.hid (by have := hown; unfold MadeX slA at this; rw [HL.out] at this; exact this)
        have HUP := Lib.hid hup
        have hsys := (Own.lit (S := fun z => z = (wr.alloc (.cells #[.int .i64 3] 3)).heap.size) (wr.alloc (.cells #[.int .i64 3] 3)) 35 8 1 #[.slice none 0 0, .slice (some ⟨wr.heap.size, 0, none⟩) 1 1, .slice none 0 0, .slice none 0 0, .bool false, .slice none 0 0, .slice none 0 0, .slice none 0 0] (by decide) rfl rfl).rd
        simp only [World.size_alloc] at hsys
        have HSYS := Lib.hid hsys
        clear hst2 hown hup hsys
        go_wp2_with (at_builtin; refine wpList_app (P := Try.prog) slSys rfl _ _ rfl (S := G) (S2 := fun z => z = wr.heap.size + 1) (n := i) (xs := l.flatMap SysX.cells) (m := 1) (news := [chainX ⟨wr.heap.size, 0, none⟩].flatMap SysX.cells) rfl rfl ?_ ?_ ?_ ?_ ?_ ?_ ?_)
        · exact HOwn.out.keep (T := Nope) ((Keep.refl _ Nope).alloc _) (fun _ _ f => f)
        · exact HSYS.out
        · rfl
        · exact fun u hu => flatX_one [chainX ⟨wr.heap.size, 0, none⟩] u (by simpa using hu)
        · omega
        · unfold maxLen; omega
        rintro a' k' c' w5 happ
        obtain ⟨q1, q2⟩ := app_up (wr := wr.alloc (.cells #[.int .i64 3] 3)) ((Keep.refl _ Nope).alloc _) happ
        obtain rfl := happ.num
        have h5 := HUP.out w5 _ q1 q2
        have H5 := Lib.hid (show St w w5 (MadeX (.slice a' (i + 1) c') (l ++ [chainX ⟨wr.heap.size, 0, none⟩])) by
          unfold MadeX
          rw [List.flatMap_append, List.map_append, List.length_append, HL.out]
          exact h5)
        clear happ q1 q2 h5
        go_wp2_with fail
        go_roundg (n - (i + 1))
        case measure => have := HG.out; omega
        case rel =>
          refine ⟨i + 1, l ++ [chainX ⟨wr.heap.size, 0, none⟩], a', c', by have := HG.out; omega, by go_num, by simp [HL.out], rfl, fun x hx => ?_, H5.out⟩
          rcases List.mem_append.1 hx with hx | hx
          · exact HC.out x hx
          · simp at hx
            exact ⟨_, hx⟩
      · obtain rfl : i = n := by omega
        have hild : decide ((i : Int) < i) = false := decide_eq_false (by omega)
        have hrd := chain_rd H2.out HC.out
        have hgrp : ∀ o, (∀ p, p ∈ o → p < l.length) → stg (depX l) o l.length = stg (fun _ _ => true) o l.length := fun o ho => stK_dep (fun i k hi hk => chain_dep HC.out i k (ho i hi) (ho k hk)) _
        obtain ⟨p1, p2, p3⟩ := chain_plain i (by omega)
        have hSt := stage_stages _ l wr _ hrd (fun z hz => hz.2)
        rw [chain_aft HC.out, HL.out, p2] at hSt
        have hgr := hgrp (List.range i) (fun p hp => by rw [HL.out]; exact List.mem_range.1 hp)
        rw [HL.out] at hgr
        rw [hgr, p3] at hSt
        unfold RetStages at hSt
        rw [p1, if_pos rfl] at hSt
        have HST := Lib.hid hSt
        clear hrd hgrp p1 p2 p3 hSt hgr
        go_wp2_with fail
        refine HST.out.mono ?_
        rintro e w2 ⟨ar, cr, rs, rfl, hrs, hst⟩
        have hrl : rs.length = i := by simpa using congrArg List.length hrs
        have hrd2 := rows_rd (P := []) hst
        rw [hrl] at hrd2 hst ⊢
        have HRD := Lib.hid hrd2
        have HRS := Lib.hid hrs
        have HRL := Lib.hid hrl
        have HS2 := Lib.hid ((St.start w).keep ((Keep.ofSt H2.out).trans (Keep.ofSt hst) (fun _ f => f.elim)))
        have hkw2 := (Keep.ofSt H2.out).trans (Keep.ofSt hst) (fun _ f => f.elim)
        have hmm : rs.map RowV.l = (nats (List.range i)).map (fun x => [x]) := by
          rw [hrs]
          simp [nats]
        have hP := stage_pick _ _ rs picks w2 _ S HRD.out (HV.out.keep hkw2 (fun _ _ f => f)) (fun r hr => by
          have := List.mem_map_of_mem (f := RowV.l) hr
          rw [hmm] at this
          obtain ⟨y, _, hy⟩ := List.mem_map.1 this
          rw [← hy]
          simp) (by rw [hrl]; omega)
        rw [hmm, pkAll_one, List.nil_append] at hP
        have HPK := Lib.hid hP
        clear hrd2 hrs hst hrl hmm hP HST H2 hkw2
        go_wp2_with fail
        refine HPK.out.mono ?_
        rintro e w3 ⟨ap, np, cp, rfl, ho, hk⟩
        have hlen2 := ho.len
        rw [ints_len, nats_len, List.length_range, Nat.mul_one] at hlen2
        have e1 : np = i := by omega
        rw [e1] at ho
        rw [e1]
        have HO := Lib.hid ho.rd
        have HRD3 := Lib.hid (HRD.out.keep0 hk)
        have HS3 := Lib.hid (HS2.out.keep hk)
        have hne : ((i : Int) != i) = false := by simp
        clear ho hk hlen2 e1 HS2 HRD HPK
        go_wp2_with fail
        go_loopg [10] i (fun g v10 wr => ∃ k : Nat, g + k = i ∧ v10 = .int .i64 k ∧ wr = w3)
        case atStart => exact ⟨0, by omega, rfl, rfl⟩
        case round =>
          obtain ⟨k, hk, rfl, rfl⟩ := hrel
          have hki : k ≤ i := by omega
          have HK := Lib.hid hk; clear hk
          by_cases hlt2 : k < i
          · have hkI : (k : Int) < i := by omega
            have hkd : decide ((k : Int) < i) = true := decide_eq_true hkI
            have hkk : ((k : Int) != k) = false := by simp
            obtain ⟨r, hr⟩ : ∃ r, rs[k]? = some r := ⟨_, List.getElem?_eq_getElem (by rw [HRL.out]; exact hlt2)⟩
            obtain ⟨b, o, rfl, _, hc0, _⟩ := HRD3.out.get hr
            have hrl1 : r.l.length = 1 := by
              have := congrArg (fun L => L[k]?) HRS.out
              simp [hr, hlt2] at this
              rw [this]
              rfl
            rw [hrl1] at hc0
            obtain ⟨b2, o2, ⟨c', hv⟩, _, hp0⟩ := HO.out.int (nats_get (show (List.range i)[k]? = some k by simp [hlt2]))
            injection hv with hv1 hv2 hv3
            subst hv1; subst hv3; clear hv2
            clear hr hrl1
            go_wp2_with fail
            go_roundg (i - (k + 1))
            case measure => have := HK.out; omega
            case rel => exact ⟨k + 1, by omega, by go_num, rfl⟩
          · obtain rfl : k = i := by omega
            have hkd : decide ((k : Int) < k) = false := decide_eq_false (by omega)
            go_wp2_with fail
            refine (awake23 _).mono ?_
            rintro e w9 ⟨rfl, hk⟩
            have HK9 := Lib.hid (HS3.out.keep hk)
            clear hk
            go_wp2_with fail
            go_ret
            exact HK9.out.ret
end Go.Proofs.Ytbigknmeooaidaa
