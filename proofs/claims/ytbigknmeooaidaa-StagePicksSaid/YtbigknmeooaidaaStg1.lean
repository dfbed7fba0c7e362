/-
  The package stage: which stage each system is of.
-/
import Derived.Test.YtbigknmeooaidaaConf4
import Derived.Test.YtbigknmeooaidaaStg
import Derived.Test.YtbigknmeooaidaaSysE
import Derived.Test.YtbigknmeooaidaaRefOE
namespace Go.Proofs.Ytbigknmeooaidaa
open Go Go.RowKit
set_option linter.unusedVariables false
set_option linter.unusedSimpArgs false

def slOf (r : RowV) : SlV := ⟨r.a, r.l.length, r.c⟩
def SysX.toV (x : SysX) : SysV := ⟨slOf x.r, slOf x.w, slOf x.rr, slOf x.rw', x.al, x.pl, x.cd, slOf x.af, x.af.l⟩
theorem toV_cells (x : SysX) : x.toV.cells = x.cells := rfl
structure RdSysX (S : Nat → Prop) (w : World) (v : Value) (l : List SysX) : Prop where
  sys : RdSys S w v (l.map SysX.toV)
  use : ∀ x, x ∈ l → UseRd S w x
theorem RdSysX.keep0 {S : Nat → Prop} {w w' : World} {v : Value} {l : List SysX} (h : RdSysX S w v l) (hk : Keep w w' Nope) : RdSysX S w' v l := ⟨h.sys.keep0 hk, fun x hx => (h.use x hx).keep0 hk⟩
def aftX (l : List SysX) : List (List Int) := l.map (fun x => x.af.l)
theorem aftX_eq (l : List SysX) : aftsOf (l.map SysX.toV) = aftX l := by
  unfold aftsOf aftX
  rw [List.map_map]
  rfl
def depX (l : List SysX) (i k : Nat) : Bool := match l[i]?, l[k]? with
  | some a, some b => hasL a.af.l k || confB a b
  | _, _ => false
theorem depX_of {l : List SysX} {i k : Nat} {a b : SysX} (ha : l[i]? = some a) (hb : l[k]? = some b) : depX l i k = (hasL a.af.l k || confB a b) := by
  unfold depX
  rw [ha, hb]
theorem flatX_len (l : List SysX) : (l.flatMap SysX.cells).length = l.length * 8 := flat_length SysX.cells 8 (fun _ => rfl) l
/-- A system's cells. -/
theorem RdSysX.at {S : Nat → Prop} {w : World} {a : Option Addr} {n c : Nat} {l : List SysX} (h : RdSysX S w (.slice a n c) l) {k : Nat} {x : SysX} (hk : l[k]? = some x) :
    ∃ b o, a = some ⟨b, o, none⟩ ∧ S b ∧ UseRd S w x ∧ Rd S w x.af.v x.af.l.length (ints x.af.l) ∧ ∀ j, j < 8 → w.cell? ⟨b, o + k * 8 + j, none⟩ = x.cells[j]? := by
  have hm : (l.map SysX.toV)[k]? = some x.toV := by rw [List.getElem?_map, hk]; rfl
  obtain ⟨a', c', he, g⟩ := id h.sys.rd
  injection he with e1 e2 e3
  subst e1; subst e3; subst e2
  obtain ⟨b, o, he, hb, hc⟩ := h.sys.rd.elem (cells := SysV.cells) (size := 8) (fun _ => rfl) (by decide) hm
  exact ⟨b, o, he, hb, h.use x (List.mem_of_getElem? hk), (h.sys.af x.toV (List.mem_map_of_mem (List.mem_of_getElem? hk))).2, hc⟩

theorem make_ints {w0 w : World} {L : List Asr} (h : St w0 w L) (n : Nat) (hn : n ≤ 100000) :
    ∃ w', (Instr.makeSlice 23 (.int .i64 (n : Int)) (.int .i64 (n : Int))).run Try.prog w = .ok (.slice (some ⟨w.heap.size, 0, none⟩) n n) w' ∧
      St w0 w' (L ++ [slA 3 1 (.slice (some ⟨w.heap.size, 0, none⟩) n n) n (ints (nats (List.replicate n 0)))]) := by
  obtain ⟨w', h1, h2⟩ := h.make (P := Try.prog) (t := 23) (e := 3) (size := 1) (bytes := 8) (.int .i64 0) Try.underlying23 (by kernel_rfl) rfl (by decide) .i64 .i64 n (by omega) (by unfold maxLen; omega)
  refine ⟨w', h1, ?_⟩
  have e : (List.replicate n (Value.int .i64 0).cells.toList).flatten = ints (nats (List.replicate n 0)) := by
    unfold ints nats
    rw [List.map_map, List.map_replicate]
    show (List.replicate n [Value.int .i64 0]).flatten = _
    induction n with
    | zero => rfl
    | succ n ih => rw [List.replicate_succ, List.flatten_cons]; simp [List.replicate_succ] at ih ⊢
  rw [e] at h2
  exact h2

theorem nats_get {l : List Nat} {k x : Nat} (h : l[k]? = some x) : (nats l)[k]? = some (x : Int) := by
  unfold nats
  rw [List.getElem?_map, h]
  rfl
theorem nats_set (l : List Nat) (k x : Nat) : (nats l).set k (x : Int) = nats (l.set k x) := by simp [nats, List.map_set]
theorem getD_some {l : List Nat} {k : Nat} (h : k < l.length) : l[k]? = some (l.getD k 0) := by
  rw [List.getD_eq_getElem?_getD, List.getElem?_eq_getElem h]
  rfl

/-- The answer of 'Of'. -/
def RetOf (w : World) (A : List (List Int)) (s : List Nat) (en : Ending) (w' : World) : Prop :=
  ∃ (a : Option Addr) (n c : Nat), en = .returned (.tuple #[.slice a n c, .int .i64 (chk A)]) ∧ Keep w w' Nope ∧ Own (New w w') w' 3 1 (.slice a n c) n (ints (nats (if chk A = 0 then s else [])))
def OfL (va vb : Value) (n : Nat) (o s : List Nat) : List Asr := [slA 3 1 va n (ints (nats o)), slA 3 1 vb n (ints (nats s))]
def LoopOf1 (w : World) (l : List SysX) (o : List Nat) (n : Nat) (va vb : Value) (g : Nat) (v24 : Value) (wr : World) : Prop :=
  ∃ t : Nat, g + t = n ∧ v24 = .int .i64 t ∧ St w wr (OfL va vb n o (stK (depX l) o n t))
def LoopOf2 (w : World) (l : List SysX) (o : List Nat) (n t i : Nat) (va vb : Value) (g : Nat) (v33 : Value) (wr : World) : Prop :=
  ∃ j : Nat, g + j = t ∧ v33 = .int .i64 j ∧ St w wr (OfL va vb n o ((stK (depX l) o n t).set i (lev (depX l) (stK (depX l) o n t) (o.take j) i 0)))

set_option maxRecDepth 3000 in
set_option maxHeartbeats 4000000 in
theorem stage_of (v : Value) (l : List SysX) (w : World) (S : Nat → Prop) (h : RdSysX S w v l) (hS : ∀ i, S i → i < w.heap.size) :
    Calls Try.prog 33 #[v] w (RetOf w (aftX l) (stg (depX l) (ord (aftX l)) l.length)) := by
  have hO := deps_Order v _ w S h.sys
  rw [aftX_eq] at hO
  have HO := Lib.hid hO; clear hO
  obtain ⟨va, vc, rfl, g1, g2, g3, g4⟩ := id h.sys.rd
  simp only [List.length_map] at g1 h HO ⊢
  clear g3 g4
  have H := Lib.hid h; clear h
  by_cases h0 : chk (aftX l) = 0
  · have hA : (aftX l).length = l.length := by simp [aftX]
    obtain ⟨z1, z2, z3⟩ := chk_zero h0
    rw [hA] at z1 z3
    have hrow := ord_row (aftX l)
    obtain ⟨o, ho⟩ : ∃ o, ord (aftX l) = o := ⟨_, rfl⟩
    rw [ho] at z3 hrow
    have HR : Hid (RetOrder w (aftX l) = fun en w' => ∃ (a : Option Addr) (n c : Nat), en = .returned (.tuple #[.slice a n c, .int .i64 0]) ∧ Keep w w' Nope ∧ Own (New w w') w' 3 1 (.slice a n c) n (ints (nats o))) := Lib.hid (by
      unfold RetOrder
      rw [h0, if_pos rfl, ho])
    have HF : Hid (RetOf w (aftX l) (stg (depX l) (ord (aftX l)) l.length) = fun en w' => ∃ (a : Option Addr) (n c : Nat), en = .returned (.tuple #[.slice a n c, .int .i64 0]) ∧ Keep w w' Nope ∧ Own (New w w') w' 3 1 (.slice a n c) n (ints (nats (stg (depX l) o l.length)))) := Lib.hid (by
      unfold RetOf
      rw [h0, if_pos rfl, ho])
    rw [HF.out]
    rw [HR.out] at HO
    have HND := Lib.hid hrow.nodup
    have HLT := Lib.hid (show ∀ i, i ∈ o → i < l.length from fun i hi => hA ▸ hrow.lt i hi)
    have HOL := Lib.hid z3
    clear h0 hA z2 z3 hrow ho HR HF
    obtain ⟨n, hn⟩ : ∃ n, l.length = n := ⟨_, rfl⟩
    rw [hn] at z1 HLT HOL HO H ⊢
    have HN := Lib.hid hn; clear hn
    have hn64 : (n : Int) ≤ 64 := by omega
    go_enter Try.func33, Try.ntmps33
    go_wp2_with fail
    refine HO.out.mono ?_
    rintro e w1 ⟨a1, n1, c1, rfl, hk1, hown⟩
    have hlen1 := hown.len
    rw [ints_len, nats_len, HOL.out, Nat.mul_one] at hlen1
    subst hlen1
    have hst := (St.start w).add hk1 (A := slA 3 1 (.slice a1 n c1) n (ints (nats o))) hown
    have hcap1 := hown.cap
    obtain ⟨w2, hmk, hst2⟩ := make_ints hst n (by omega)
    obtain ⟨gv, hgv⟩ : ∃ gv, w1.heap.size = gv := ⟨_, rfl⟩
    rw [hgv] at hmk hst2
    have H2 := Lib.hid (show St w w2 (OfL (.slice a1 n c1) (.slice (some ⟨gv, 0, none⟩) n n) n o (stK (depX l) o n 0)) from hst2)
    unfold maxLen at hcap1
    clear hst hst2 hown hk1 hgv
    go_wp2_with fail
    go_loopg [24] n (fun g v24 wr => LoopOf1 w l o n (.slice a1 n c1) (.slice (some ⟨gv, 0, none⟩) n n) g v24 wr)
    case atStart => exact ⟨0, by omega, rfl, H2.out⟩
    case round =>
      obtain ⟨t, ht, rfl, hst⟩ := hrel
      clear H2 hmk
      have htn : t ≤ n := by omega
      have HT := Lib.hid ht; clear ht
      have H3 := Lib.hid hst; clear hst
      by_cases hlt : t < n
      · obtain ⟨i, hi⟩ : ∃ i, o[t]? = some i := ⟨_, List.getElem?_eq_getElem (by rw [HOL.out]; exact hlt)⟩
        have him := HLT.out i (List.mem_of_getElem? hi)
        obtain ⟨xi, hxi⟩ : ∃ xi, l[i]? = some xi := ⟨_, List.getElem?_eq_getElem (by rw [HN.out]; exact him)⟩
        obtain ⟨G0, _, hrd0, _⟩ := H3.out.rd 0 rfl
        obtain ⟨bo, oo, ⟨c', hv⟩, _, hc0⟩ := (show Rd G0 wr (.slice a1 n c1) n (ints (nats o)) from hrd0).int (nats_get hi)
        injection hv with hv1 hv2 hv3
        subst hv1; subst hv3
        have HI := Lib.hid hi
        have HXI := Lib.hid hxi
        have hti : (t : Int) < n := by omega
        have htd : decide ((t : Int) < n) = true := decide_eq_true hti
        have hrunh := slice_h_any (P := Try.prog) slInt (some ⟨bo, oo, none⟩) n c1 t .i64 (by omega)
        have hstart : (stK (depX l) o n t).set i (lev (depX l) (stK (depX l) o n t) (o.take 0) i 0) = stK (depX l) o n t := by
          have hz := stK_zero (dep := depX l) (n := n) t i (take_mem_lt HND.out hi)
          have hl2 : i < (stK (depX l) o n t).length := by rw [stK_len]; exact him
          rw [List.take_zero]
          apply List.ext_getElem?
          intro p
          by_cases e : i = p
          · subst e
            rw [List.getElem?_set_self hl2, getD_some hl2, hz]
            rfl
          · rw [List.getElem?_set_ne e]
        have HST0 := Lib.hid hstart
        clear hi hxi hrd0 hstart
        go_wp2_with fail
        go_loopg [33] t (fun g v33 wz => LoopOf2 w l o n t i (.slice (some ⟨bo, oo, none⟩) n c1) (.slice (some ⟨gv, 0, none⟩) n n) g v33 wz)
        case atStart => exact ⟨0, by omega, rfl, by rw [HST0.out]; exact H3.out⟩
        case round =>
          obtain ⟨j, hj, rfl, hst⟩ := hrel
          clear hc0 hrunh
          have hjt : j ≤ t := by omega
          have HJ := Lib.hid hj; clear hj
          have H4 := Lib.hid hst; clear hst
          by_cases hlj : j < t
          · obtain ⟨k, hk⟩ : ∃ k, o[j]? = some k := ⟨_, List.getElem?_eq_getElem (by rw [HOL.out]; omega)⟩
            have hkm := HLT.out k (List.mem_of_getElem? hk)
            obtain ⟨xk, hxk⟩ : ∃ xk, l[k]? = some xk := ⟨_, List.getElem?_eq_getElem (by rw [HN.out]; exact hkm)⟩
            have hkt : k ∈ o.take t := by
              rw [List.mem_iff_getElem?]
              exact ⟨j, by rw [List.getElem?_take_of_lt hlj]; exact hk⟩
            have hik : i ≠ k := fun e => take_mem_lt HND.out HI.out (e ▸ hkt)
            obtain ⟨G0, _, hrd0, _⟩ := H4.out.rd 0 rfl
            obtain ⟨bo', oo', ⟨c', hv⟩, _, hc0⟩ := (show Rd G0 wr (.slice (some ⟨bo, oo, none⟩) n c1) n (ints (nats o)) from hrd0).int (nats_get hk)
            injection hv with hv1 hv2 hv3
            injection hv1 with hv1
            injection hv1 with hv1 hv4
            subst hv1; subst hv3; subst hv4
            have hX := H.out.keep0 (Keep.ofSt H4.out)
            obtain ⟨bs, os, rfl, _, hui, hafi, hci⟩ := hX.at HXI.out
            obtain ⟨bs', os', he, _, huk, hafk, hck⟩ := hX.at hxk
            injection he with he
            injection he with e1 e2
            subst e1; subst e2
            have HC1 := Lib.hid (fun wq (hk' : Keep wr wq Nope) => contains_val (k : Int) xi.af.v xi.af.l wq S (hafi.keep hk' (fun _ _ f => f)))
            have HC2 := Lib.hid (fun wq (hk' : Keep wr wq Nope) => sys_conflict xi xk wq S (hui.keep0 hk') (huk.keep0 hk'))
            have hdep := depX_of HXI.out hxk
            have hls := lev_snoc (depX l) (stK (depX l) o n t) (o.take j) i 0 k
            have hot : o.take (j + 1) = o.take j ++ [k] := by rw [List.take_add_one, hk]; rfl
            rw [← hot] at hls
            have HLS := Lib.hid hls
            obtain ⟨c1b, hc1b⟩ : ∃ b, hasL xi.af.l k = b := ⟨_, rfl⟩
            obtain ⟨c2b, hc2b⟩ : ∃ b, confB xi xk = b := ⟨_, rfl⟩
            rw [hc1b] at HC1 hdep
            rw [hc2b] at HC2 hdep
            have HDEP := Lib.hid hdep
            have i0 := hci 0 (by decide)
            have i1 := hci 1 (by decide)
            have i2 := hci 2 (by decide)
            have i3 := hci 3 (by decide)
            have i4 := hci 4 (by decide)
            have i5 := hci 5 (by decide)
            have i6 := hci 6 (by decide)
            have i7 := hci 7 (by decide)
            have k0 := hck 0 (by decide)
            have k1 := hck 1 (by decide)
            have k2 := hck 2 (by decide)
            have k3 := hck 3 (by decide)
            have k4 := hck 4 (by decide)
            have k5 := hck 5 (by decide)
            have k6 := hck 6 (by decide)
            have k7 := hck 7 (by decide)
            simp [SysX.cells] at i0 i1 i2 i3 i4 i5 i6 i7 k0 k1 k2 k3 k4 k5 k6 k7
            have hjti : (j : Int) < t := by omega
            have hjd : decide ((j : Int) < t) = true := decide_eq_true hjti
            have hini : (i : Int) < n := by omega
            have hkni : (k : Int) < n := by omega
            have HKX := Lib.hid (⟨hk, hxk⟩ : o[j]? = some k ∧ l[k]? = some xk)
            unfold SysX.val at HC2
            generalize xi.r.v = ir at i0 HC2
            generalize xi.w.v = iw at i1 HC2
            generalize xi.rr.v = irr at i2 HC2
            generalize xi.rw'.v = irw at i3 HC2
            generalize xi.al = ial at i4 HC2
            generalize xi.pl.v = ipl at i5 HC2
            generalize xi.cd.v = icd at i6 HC2
            generalize xi.af.v = iaf at i7 HC2 HC1
            generalize xk.r.v = kr at k0 HC2
            generalize xk.w.v = kw at k1 HC2
            generalize xk.rr.v = krr at k2 HC2
            generalize xk.rw'.v = krw at k3 HC2
            generalize xk.al = kal at k4 HC2
            generalize xk.pl.v = kpl at k5 HC2
            generalize xk.cd.v = kcd at k6 HC2
            generalize xk.af.v = kaf at k7 HC2
            clear hk hxk hkt hrd0 hX hui huk hafi hafk hci hck hdep hls hot hc1b hc2b
            go_upto_region 11 with (fail)
            cases c1b
            · skip
              refine wp_region_held_drew (S := fun w' => w'.cell? ⟨bs, os + i * 8, none⟩ = some (ir) ∧ w'.cell? ⟨bs, os + i * 8 + 1, none⟩ = some (iw) ∧ w'.cell? ⟨bs, os + i * 8 + 2, none⟩ = some (irr) ∧ w'.cell? ⟨bs, os + i * 8 + 3, none⟩ = some (irw) ∧ w'.cell? ⟨bs, os + i * 8 + 4, none⟩ = some (.bool ial) ∧ w'.cell? ⟨bs, os + i * 8 + 5, none⟩ = some (ipl) ∧ w'.cell? ⟨bs, os + i * 8 + 6, none⟩ = some (icd) ∧ w'.cell? ⟨bs, os + i * 8 + 7, none⟩ = some (iaf) ∧ w'.cell? ⟨bs, os + k * 8, none⟩ = some (kr) ∧ w'.cell? ⟨bs, os + k * 8 + 1, none⟩ = some (kw) ∧ w'.cell? ⟨bs, os + k * 8 + 2, none⟩ = some (krr) ∧ w'.cell? ⟨bs, os + k * 8 + 3, none⟩ = some (krw) ∧ w'.cell? ⟨bs, os + k * 8 + 4, none⟩ = some (.bool kal) ∧ w'.cell? ⟨bs, os + k * 8 + 5, none⟩ = some (kpl) ∧ w'.cell? ⟨bs, os + k * 8 + 6, none⟩ = some (kcd) ∧ w'.cell? ⟨bs, os + k * 8 + 7, none⟩ = some (kaf)) (by kernel_rfl) ?_ (fun hHeld => ?_)
              · (try dsimp only); go_keep
              refine wpAnyH_take (i := 0) (oi := ?_) (v := ?_) ?_ ?_ ?_ ?_ ?_ ?_ ?_ ?_
              rotate_left 2
              · simp only [List.getElem?_toArray, List.getElem?_cons_succ, List.getElem?_cons_zero]; exact rfl
              · kernel_rfl
              · kernel_rfl
              · kernel_rfl
              · first | exact fun _ _ _ h => h | exact fun _ _ _ h => (HPan.out _ _ _ h).elim
              · (refine Or.inl ⟨by rfl, ?_⟩; (intro w hSw; (try dsimp only at hSw); go_simp) <;> with_reducible rfl)
              · assumption
              simp only [Act.put, List.setIfInBounds_toArray, List.set_cons_zero, List.set_cons_succ]
              refine wpAnyH_take (i := 1) (oi := ?_) (v := ?_) ?_ ?_ ?_ ?_ ?_ ?_ ?_ ?_
              rotate_left 2
              · simp only [List.getElem?_toArray, List.getElem?_cons_succ, List.getElem?_cons_zero]; exact rfl
              · kernel_rfl
              · kernel_rfl
              · kernel_rfl
              · first | exact fun _ _ _ h => h | exact fun _ _ _ h => (HPan.out _ _ _ h).elim
              · (refine Or.inl ⟨by rfl, ?_⟩; (intro w hSw; (try dsimp only at hSw); go_simp) <;> with_reducible rfl)
              · assumption
              simp only [Act.put, List.setIfInBounds_toArray, List.set_cons_zero, List.set_cons_succ]
              refine wpAnyH_take (i := 2) (oi := ?_) (v := ?_) ?_ ?_ ?_ ?_ ?_ ?_ ?_ ?_
              rotate_left 2
              · simp only [List.getElem?_toArray, List.getElem?_cons_succ, List.getElem?_cons_zero]; exact rfl
              · kernel_rfl
              · kernel_rfl
              · kernel_rfl
              · first | exact fun _ _ _ h => h | exact fun _ _ _ h => (HPan.out _ _ _ h).elim
              · (refine Or.inl ⟨by rfl, ?_⟩; (intro w hSw; (try dsimp only at hSw); go_simp) <;> with_reducible rfl)
              · assumption
              simp only [Act.put, List.setIfInBounds_toArray, List.set_cons_zero, List.set_cons_succ]
              refine wpAnyH_take (i := 3) (oi := ?_) (v := ?_) ?_ ?_ ?_ ?_ ?_ ?_ ?_ ?_
              rotate_left 2
              · simp only [List.getElem?_toArray, List.getElem?_cons_succ, List.getElem?_cons_zero]; exact rfl
              · kernel_rfl
              · kernel_rfl
              · kernel_rfl
              · first | exact fun _ _ _ h => h | exact fun _ _ _ h => (HPan.out _ _ _ h).elim
              · (refine Or.inl ⟨by rfl, ?_⟩; (intro w hSw; (try dsimp only at hSw); go_simp) <;> with_reducible rfl)
              · assumption
              simp only [Act.put, List.setIfInBounds_toArray, List.set_cons_zero, List.set_cons_succ]
              refine wpAnyH_take (i := 4) (oi := ?_) (v := ?_) ?_ ?_ ?_ ?_ ?_ ?_ ?_ ?_
              rotate_left 2
              · simp only [List.getElem?_toArray, List.getElem?_cons_succ, List.getElem?_cons_zero]; exact rfl
              · kernel_rfl
              · kernel_rfl
              · kernel_rfl
              · first | exact fun _ _ _ h => h | exact fun _ _ _ h => (HPan.out _ _ _ h).elim
              · (refine Or.inl ⟨by rfl, ?_⟩; (intro w hSw; (try dsimp only at hSw); go_simp) <;> with_reducible rfl)
              · assumption
              simp only [Act.put, List.setIfInBounds_toArray, List.set_cons_zero, List.set_cons_succ]
              refine wpAnyH_take (i := 5) (oi := ?_) (v := ?_) ?_ ?_ ?_ ?_ ?_ ?_ ?_ ?_
              rotate_left 2
              · simp only [List.getElem?_toArray, List.getElem?_cons_succ, List.getElem?_cons_zero]; exact rfl
              · kernel_rfl
              · kernel_rfl
              · kernel_rfl
              · first | exact fun _ _ _ h => h | exact fun _ _ _ h => (HPan.out _ _ _ h).elim
              · (refine Or.inl ⟨by rfl, ?_⟩; (intro w hSw; (try dsimp only at hSw); go_simp) <;> with_reducible rfl)
              · assumption
              simp only [Act.put, List.setIfInBounds_toArray, List.set_cons_zero, List.set_cons_succ]
              refine wpAnyH_ready (rs := [6]) (by kernel_rfl) (by simp) ?_
              refine AllReadyH.cons rfl (fun K hK => ?_) (AllReadyH.nil)
              go_simp
              go_wp2_with ((go_at_call 56; refine (HC1.out _ (by (repeat (first | exact Keep.refl _ _ | apply Keep.drew | apply Keep.drewN | apply Keep.alloc)))).mono ?_; rintro e w6 ⟨rfl, rfl⟩))
              refine hK.out _ _ ?_ (fun hHeld => ?_)
              · (try dsimp only); go_keep
              clear hK K
              refine wpAnyH_take (i := 7) (oi := ?_) (v := ?_) ?_ ?_ ?_ ?_ ?_ ?_ ?_ ?_
              rotate_left 2
              · simp only [List.getElem?_toArray, List.getElem?_cons_succ, List.getElem?_cons_zero]; exact rfl
              · kernel_rfl
              · kernel_rfl
              · kernel_rfl
              · first | exact fun _ _ _ h => h | exact fun _ _ _ h => (HPan.out _ _ _ h).elim
              · (refine Or.inl ⟨by rfl, ?_⟩; (intro w hSw; (try dsimp only at hSw); go_simp) <;> with_reducible rfl)
              · assumption
              simp only [Act.put, List.setIfInBounds_toArray, List.set_cons_zero, List.set_cons_succ]
              refine wpAnyH_take (i := 8) (oi := ?_) (v := ?_) ?_ ?_ ?_ ?_ ?_ ?_ ?_ ?_
              rotate_left 2
              · simp only [List.getElem?_toArray, List.getElem?_cons_succ, List.getElem?_cons_zero]; exact rfl
              · kernel_rfl
              · kernel_rfl
              · kernel_rfl
              · first | exact fun _ _ _ h => h | exact fun _ _ _ h => (HPan.out _ _ _ h).elim
              · (refine Or.inl ⟨by rfl, ?_⟩; (intro w hSw; (try dsimp only at hSw); go_simp) <;> with_reducible rfl)
              · assumption
              simp only [Act.put, List.setIfInBounds_toArray, List.set_cons_zero, List.set_cons_succ]
              refine wpAnyH_take (i := 9) (oi := ?_) (v := ?_) ?_ ?_ ?_ ?_ ?_ ?_ ?_ ?_
              rotate_left 2
              · simp only [List.getElem?_toArray, List.getElem?_cons_succ, List.getElem?_cons_zero]; exact rfl
              · kernel_rfl
              · kernel_rfl
              · kernel_rfl
              · first | exact fun _ _ _ h => h | exact fun _ _ _ h => (HPan.out _ _ _ h).elim
              · (refine Or.inl ⟨by rfl, ?_⟩; (intro w hSw; (try dsimp only at hSw); go_simp) <;> with_reducible rfl)
              · assumption
              simp only [Act.put, List.setIfInBounds_toArray, List.set_cons_zero, List.set_cons_succ]
              refine wpAnyH_take (i := 10) (oi := ?_) (v := ?_) ?_ ?_ ?_ ?_ ?_ ?_ ?_ ?_
              rotate_left 2
              · simp only [List.getElem?_toArray, List.getElem?_cons_succ, List.getElem?_cons_zero]; exact rfl
              · kernel_rfl
              · kernel_rfl
              · kernel_rfl
              · first | exact fun _ _ _ h => h | exact fun _ _ _ h => (HPan.out _ _ _ h).elim
              · (refine Or.inl ⟨by rfl, ?_⟩; (intro w hSw; (try dsimp only at hSw); go_simp) <;> with_reducible rfl)
              · assumption
              simp only [Act.put, List.setIfInBounds_toArray, List.set_cons_zero, List.set_cons_succ]
              refine wpAnyH_take (i := 11) (oi := ?_) (v := ?_) ?_ ?_ ?_ ?_ ?_ ?_ ?_ ?_
              rotate_left 2
              · simp only [List.getElem?_toArray, List.getElem?_cons_succ, List.getElem?_cons_zero]; exact rfl
              · kernel_rfl
              · kernel_rfl
              · kernel_rfl
              · first | exact fun _ _ _ h => h | exact fun _ _ _ h => (HPan.out _ _ _ h).elim
              · (refine Or.inl ⟨by rfl, ?_⟩; (intro w hSw; (try dsimp only at hSw); go_simp) <;> with_reducible rfl)
              · assumption
              simp only [Act.put, List.setIfInBounds_toArray, List.set_cons_zero, List.set_cons_succ]
              refine wpAnyH_take (i := 12) (oi := ?_) (v := ?_) ?_ ?_ ?_ ?_ ?_ ?_ ?_ ?_
              rotate_left 2
              · simp only [List.getElem?_toArray, List.getElem?_cons_succ, List.getElem?_cons_zero]; exact rfl
              · kernel_rfl
              · kernel_rfl
              · kernel_rfl
              · first | exact fun _ _ _ h => h | exact fun _ _ _ h => (HPan.out _ _ _ h).elim
              · (refine Or.inl ⟨by rfl, ?_⟩; (intro w hSw; (try dsimp only at hSw); go_simp) <;> with_reducible rfl)
              · assumption
              simp only [Act.put, List.setIfInBounds_toArray, List.set_cons_zero, List.set_cons_succ]
              refine wpAnyH_take (i := 13) (oi := ?_) (v := ?_) ?_ ?_ ?_ ?_ ?_ ?_ ?_ ?_
              rotate_left 2
              · simp only [List.getElem?_toArray, List.getElem?_cons_succ, List.getElem?_cons_zero]; exact rfl
              · kernel_rfl
              · kernel_rfl
              · kernel_rfl
              · first | exact fun _ _ _ h => h | exact fun _ _ _ h => (HPan.out _ _ _ h).elim
              · (refine Or.inl ⟨by rfl, ?_⟩; (intro w hSw; (try dsimp only at hSw); go_simp) <;> with_reducible rfl)
              · assumption
              simp only [Act.put, List.setIfInBounds_toArray, List.set_cons_zero, List.set_cons_succ]
              refine wpAnyH_take (i := 14) (oi := ?_) (v := ?_) ?_ ?_ ?_ ?_ ?_ ?_ ?_ ?_
              rotate_left 2
              · simp only [List.getElem?_toArray, List.getElem?_cons_succ, List.getElem?_cons_zero]; exact rfl
              · kernel_rfl
              · kernel_rfl
              · kernel_rfl
              · first | exact fun _ _ _ h => h | exact fun _ _ _ h => (HPan.out _ _ _ h).elim
              · (refine Or.inl ⟨by rfl, ?_⟩; (intro w hSw; (try dsimp only at hSw); go_simp) <;> with_reducible rfl)
              · assumption
              simp only [Act.put, List.setIfInBounds_toArray, List.set_cons_zero, List.set_cons_succ]
              refine wpAnyH_take (i := 15) (oi := ?_) (v := ?_) ?_ ?_ ?_ ?_ ?_ ?_ ?_ ?_
              rotate_left 2
              · simp only [List.getElem?_toArray, List.getElem?_cons_succ, List.getElem?_cons_zero]; exact rfl
              · kernel_rfl
              · kernel_rfl
              · kernel_rfl
              · first | exact fun _ _ _ h => h | exact fun _ _ _ h => (HPan.out _ _ _ h).elim
              · (refine Or.inl ⟨by rfl, ?_⟩; (intro w hSw; (try dsimp only at hSw); go_simp) <;> with_reducible rfl)
              · assumption
              simp only [Act.put, List.setIfInBounds_toArray, List.set_cons_zero, List.set_cons_succ]
              refine wpAnyH_ready (rs := [16]) (by kernel_rfl) (by simp) ?_
              refine AllReadyH.cons rfl (fun K hK => ?_) (AllReadyH.nil)
              go_simp
              go_wp2_with ((go_at_call 25; refine (HC2.out _ (by (repeat (first | exact Keep.refl _ _ | apply Keep.drew | apply Keep.drewN | apply Keep.alloc)))).mono ?_; rintro e w7 ⟨rfl, hk7⟩; have HK7 := Lib.hid ((show Keep wr _ Nope from (by (repeat (first | exact Keep.refl _ _ | apply Keep.drew | apply Keep.drewN | apply Keep.alloc)))).trans hk7 (fun _ f => f.elim)); clear hk7))
              refine hK.out _ _ ?_ (fun hHeld => ?_)
              · (try dsimp only); exact ⟨HK7.out.cell i0 (fun f => f), HK7.out.cell i1 (fun f => f), HK7.out.cell i2 (fun f => f), HK7.out.cell i3 (fun f => f), HK7.out.cell i4 (fun f => f), HK7.out.cell i5 (fun f => f), HK7.out.cell i6 (fun f => f), HK7.out.cell i7 (fun f => f), HK7.out.cell k0 (fun f => f), HK7.out.cell k1 (fun f => f), HK7.out.cell k2 (fun f => f), HK7.out.cell k3 (fun f => f), HK7.out.cell k4 (fun f => f), HK7.out.cell k5 (fun f => f), HK7.out.cell k6 (fun f => f), HK7.out.cell k7 (fun f => f)⟩
              clear hK K
              refine wpAnyH_take (i := 17) (oi := ?_) (v := ?_) ?_ ?_ ?_ ?_ ?_ ?_ ?_ ?_
              rotate_left 2
              · simp only [List.getElem?_toArray, List.getElem?_cons_succ, List.getElem?_cons_zero]; exact rfl
              · kernel_rfl
              · kernel_rfl
              · kernel_rfl
              · first | exact fun _ _ _ h => h | exact fun _ _ _ h => (HPan.out _ _ _ h).elim
              · (refine Or.inl ⟨by rfl, ?_⟩; (intro w hSw; (try dsimp only at hSw); go_simp) <;> with_reducible rfl)
              · assumption
              simp only [Act.put, List.setIfInBounds_toArray, List.set_cons_zero, List.set_cons_succ]
              refine wpAnyH_done (by kernel_rfl) ?_ _
              have H7 := Lib.hid (H4.out.keep HK7.out)
              clear HC1 HC2 HK7 i0 i1 i2 i3 i4 i5 i6 i7 k0 k1 k2 k3 k4 k5 k6 k7 hc0 hHeld
              cases c2b
              · go_wp2_with fail
                go_roundg (t - (j + 1))
                case measure => have := HJ.out; omega
                case rel => exact ⟨j + 1, by omega, by go_num, by rw [HLS.out, HDEP.out]; exact H7.out⟩
              · go_upto_region 12 with (fail)
                obtain ⟨G0, _, hrd0, _⟩ := H7.out.rd 1 rfl
                obtain ⟨bz, oz, ⟨c', hv⟩, _, hm0⟩ := (show Rd G0 w7 (.slice (some ⟨gv, 0, none⟩) n n) n (ints (nats ((stK (depX l) o n t).set i (lev (depX l) (stK (depX l) o n t) (o.take j) i 0)))) from hrd0).int (k := i) (nats_get (List.getElem?_set_self (by rw [stK_len]; exact him)))
                injection hv with hv1 hv2 hv3
                injection hv1 with hv1
                injection hv1 with hv1 hv4
                subst hv1; subst hv4; subst hv3; clear hv2
                obtain ⟨bz, oz, ⟨c', hv⟩, _, hm1⟩ := (show Rd G0 w7 (.slice (some ⟨gv, 0, none⟩) n n) n (ints (nats ((stK (depX l) o n t).set i (lev (depX l) (stK (depX l) o n t) (o.take j) i 0)))) from hrd0).int (k := k) (nats_get (by rw [List.getElem?_set_ne hik]; exact getD_some (by rw [stK_len]; exact hkm)))
                injection hv with hv1 hv2 hv3
                injection hv1 with hv1
                injection hv1 with hv1 hv4
                subst hv1; subst hv4; subst hv3; clear hv2
                have hsk := stK_le (dep := depX l) (o := o) (n := n) t k
                have hlm := lev_le (dep := depX l) (out := stK (depX l) o n t) (i := i) (b := 100) (o.take j) 0 (by omega) (fun q _ => by have := stK_le (dep := depX l) (o := o) (n := n) t q; omega)
                obtain ⟨g', he', hgl, hgf, hgc, hst8⟩ := H7.out.store 1 (n := n) (a := some ⟨gv, 0, none⟩) (c := n) (e := 3) (size := 1) (xs := ints (nats ((stK (depX l) o n t).set i (lev (depX l) (stK (depX l) o n t) (o.take j) i 0)))) rfl (by omega)
                injection he' with he'
                injection he' with he'
                subst he'
                have zf := hgf i
                have hnew := HLS.out
                rw [HDEP.out] at hnew
                simp only [Bool.or_true, Bool.true_or, if_true] at hnew
                obtain ⟨m, hm⟩ : ∃ m, lev (depX l) (stK (depX l) o n t) (o.take j) i 0 = m := ⟨_, rfl⟩
                obtain ⟨sk, hsk2⟩ : ∃ sk, (stK (depX l) o n t).getD k 0 = sk := ⟨_, rfl⟩
                rw [hm] at hm0 hlm hnew
                rw [hsk2] at hm1 hsk hnew
                have h8 := hst8 i (.int .i64 ((max m (sk + 1) : Nat) : Int))
                rw [show (ints (nats ((stK (depX l) o n t).set i (lev (depX l) (stK (depX l) o n t) (o.take j) i 0)))).set i (.int .i64 ((max m (sk + 1) : Nat) : Int)) = ints (nats ((stK (depX l) o n t).set i (lev (depX l) (stK (depX l) o n t) (o.take (j + 1)) i 0))) by rw [ints_set, nats_set, List.set_set, hnew]] at h8
                have H8 := Lib.hid (show St w (w7.setCell ⟨gv, i, none⟩ (.int .i64 ((max m (sk + 1) : Nat) : Int))) (OfL (.slice (some ⟨bo, oo, none⟩) n c1) (.slice (some ⟨gv, 0, none⟩) n n) n o ((stK (depX l) o n t).set i (lev (depX l) (stK (depX l) o n t) (o.take (j + 1)) i 0))) from h8)
                simp at hm0 hm1
                have hmx : max (m : Int) ((sk : Int) + 1) = ((max m (sk + 1) : Nat) : Int) := by omega
                have hw1 : IntKind.i64.wrap ((sk : Int) + 1) = (sk : Int) + 1 := IntWalk.i64_in _ (by omega)
                have hm100 : (m : Int) ≤ 100 := by omega
                have hsk100 : (sk : Int) ≤ 100 := by omega
                clear hrd0 hst8 hgf hgc h8 hnew hm hsk2 hlm hsk H4 H7
                refine wp_region_M (r := 12) (S := fun w' => w'.cell? ⟨gv, i, none⟩ = some (.int .i64 (m : Int)) ∧ w'.cell? ⟨gv, k, none⟩ = some (.int .i64 (sk : Int))) (by kernel_rfl) ?_ (fun hHeld => ?_)
                · (try dsimp only); go_keep
                (refine wpAnyM_takeP (i := 0) (oi := ?_) (v := ?_) ?_ ?_ ?_ ?_ ?_ ?_ ?_ ?_ ?_; rotate_left 2; (· simp only [List.getElem?_toArray, List.getElem?_cons_succ, List.getElem?_cons_zero]; exact rfl); (· kernel_rfl); (· kernel_rfl); (· kernel_rfl); (· kernel_rfl); (· first | exact fun _ _ _ h => h | exact fun _ _ _ h => (HPan.out _ _ _ h).elim); (· (refine Or.inl ⟨by rfl, ?_⟩; (intro w hSw; (try dsimp only at hSw); go_simp) <;> with_reducible rfl)); (· exact fun _ => hHeld); simp only [Act.put, List.setIfInBounds_toArray, List.set_cons_zero, List.set_cons_succ])
                (refine wpAnyM_takeP (i := 1) (oi := ?_) (v := ?_) ?_ ?_ ?_ ?_ ?_ ?_ ?_ ?_ ?_; rotate_left 2; (· simp only [List.getElem?_toArray, List.getElem?_cons_succ, List.getElem?_cons_zero]; exact rfl); (· kernel_rfl); (· kernel_rfl); (· kernel_rfl); (· kernel_rfl); (· first | exact fun _ _ _ h => h | exact fun _ _ _ h => (HPan.out _ _ _ h).elim); (· (refine Or.inl ⟨by rfl, ?_⟩; (intro w hSw; (try dsimp only at hSw); go_simp) <;> with_reducible rfl)); (· exact fun _ => hHeld); simp only [Act.put, List.setIfInBounds_toArray, List.set_cons_zero, List.set_cons_succ])
                (refine wpAnyM_takeP (i := 2) (oi := ?_) (v := ?_) ?_ ?_ ?_ ?_ ?_ ?_ ?_ ?_ ?_; rotate_left 2; (· simp only [List.getElem?_toArray, List.getElem?_cons_succ, List.getElem?_cons_zero]; exact rfl); (· kernel_rfl); (· kernel_rfl); (· kernel_rfl); (· kernel_rfl); (· first | exact fun _ _ _ h => h | exact fun _ _ _ h => (HPan.out _ _ _ h).elim); (· (refine Or.inl ⟨by rfl, ?_⟩; (intro w hSw; (try dsimp only at hSw); go_simp) <;> with_reducible rfl)); (· exact fun _ => hHeld); simp only [Act.put, List.setIfInBounds_toArray, List.set_cons_zero, List.set_cons_succ])
                (refine wpAnyM_takeP (i := 3) (oi := ?_) (v := ?_) ?_ ?_ ?_ ?_ ?_ ?_ ?_ ?_ ?_; rotate_left 2; (· simp only [List.getElem?_toArray, List.getElem?_cons_succ, List.getElem?_cons_zero]; exact rfl); (· kernel_rfl); (· kernel_rfl); (· kernel_rfl); (· kernel_rfl); (· first | exact fun _ _ _ h => h | exact fun _ _ _ h => (HPan.out _ _ _ h).elim); (· (refine Or.inl ⟨by rfl, ?_⟩; (intro w hSw; (try dsimp only at hSw); go_simp) <;> with_reducible rfl)); (· exact fun _ => hHeld); simp only [Act.put, List.setIfInBounds_toArray, List.set_cons_zero, List.set_cons_succ])
                (refine wpAnyM_takeP (i := 4) (oi := ?_) (v := ?_) ?_ ?_ ?_ ?_ ?_ ?_ ?_ ?_ ?_; rotate_left 2; (· simp only [List.getElem?_toArray, List.getElem?_cons_succ, List.getElem?_cons_zero]; exact rfl); (· kernel_rfl); (· kernel_rfl); (· kernel_rfl); (· kernel_rfl); (· first | exact fun _ _ _ h => h | exact fun _ _ _ h => (HPan.out _ _ _ h).elim); (· (refine Or.inl ⟨by rfl, ?_⟩; (intro w hSw; (try dsimp only at hSw); go_simp) <;> with_reducible rfl)); (· exact fun _ => hHeld); simp only [Act.put, List.setIfInBounds_toArray, List.set_cons_zero, List.set_cons_succ])
                (refine wpAnyM_take (i := 5) (oi := ?_) (v := ?_) ?_ ?_ ?_ ?_ ?_ ?_ ?_ ?_ ?_ ?_; rotate_left 2; (· simp only [List.getElem?_toArray, List.getElem?_cons_succ, List.getElem?_cons_zero]; exact rfl); (· kernel_rfl); (· kernel_rfl); (· kernel_rfl); (· kernel_rfl); (· kernel_rfl); (· first | exact fun _ _ _ h => h | exact fun _ _ _ h => (HPan.out _ _ _ h).elim); (· (refine Or.inl ⟨by rfl, ?_⟩; (intro w hSw; (try dsimp only at hSw); go_simp) <;> with_reducible rfl)); (· assumption); simp only [Act.put, List.setIfInBounds_toArray, List.set_cons_zero, List.set_cons_succ])
                (refine wpAnyM_takeP (i := 6) (oi := ?_) (v := ?_) ?_ ?_ ?_ ?_ ?_ ?_ ?_ ?_ ?_; rotate_left 2; (· simp only [List.getElem?_toArray, List.getElem?_cons_succ, List.getElem?_cons_zero]; exact rfl); (· kernel_rfl); (· kernel_rfl); (· kernel_rfl); (· kernel_rfl); (· first | exact fun _ _ _ h => h | exact fun _ _ _ h => (HPan.out _ _ _ h).elim); (· (refine Or.inl ⟨by rfl, ?_⟩; (intro w hSw; (try dsimp only at hSw); go_simp) <;> with_reducible rfl)); (· exact fun _ => hHeld); simp only [Act.put, List.setIfInBounds_toArray, List.set_cons_zero, List.set_cons_succ])
                (refine wpAnyM_takeP (i := 7) (oi := ?_) (v := ?_) ?_ ?_ ?_ ?_ ?_ ?_ ?_ ?_ ?_; rotate_left 2; (· simp only [List.getElem?_toArray, List.getElem?_cons_succ, List.getElem?_cons_zero]; exact rfl); (· kernel_rfl); (· kernel_rfl); (· kernel_rfl); (· kernel_rfl); (· first | exact fun _ _ _ h => h | exact fun _ _ _ h => (HPan.out _ _ _ h).elim); (· (refine Or.inl ⟨by rfl, ?_⟩; (intro w hSw; (try dsimp only at hSw); go_simp) <;> with_reducible rfl)); (· exact fun _ => hHeld); simp only [Act.put, List.setIfInBounds_toArray, List.set_cons_zero, List.set_cons_succ])
                (refine wpAnyM_takeP (i := 8) (oi := ?_) (v := ?_) ?_ ?_ ?_ ?_ ?_ ?_ ?_ ?_ ?_; rotate_left 2; (· simp only [List.getElem?_toArray, List.getElem?_cons_succ, List.getElem?_cons_zero]; exact rfl); (· kernel_rfl); (· kernel_rfl); (· kernel_rfl); (· kernel_rfl); (· first | exact fun _ _ _ h => h | exact fun _ _ _ h => (HPan.out _ _ _ h).elim); (· (refine Or.inl ⟨by rfl, ?_⟩; (intro w hSw; (try dsimp only at hSw); go_simp) <;> with_reducible rfl)); (· exact fun _ => hHeld); simp only [Act.put, List.setIfInBounds_toArray, List.set_cons_zero, List.set_cons_succ])
                (refine wpAnyM_take (i := 9) (oi := ?_) (v := ?_) ?_ ?_ ?_ ?_ ?_ ?_ ?_ ?_ ?_ ?_; rotate_left 2; (· simp only [List.getElem?_toArray, List.getElem?_cons_succ, List.getElem?_cons_zero]; exact rfl); (· kernel_rfl); (· kernel_rfl); (· kernel_rfl); (· kernel_rfl); (· kernel_rfl); (· first | exact fun _ _ _ h => h | exact fun _ _ _ h => (HPan.out _ _ _ h).elim); (· (refine Or.inl ⟨by rfl, ?_⟩; (intro w hSw; (try dsimp only at hSw); go_simp) <;> with_reducible rfl)); (· assumption); simp only [Act.put, List.setIfInBounds_toArray, List.set_cons_zero, List.set_cons_succ])
                (refine wpAnyM_takeP (i := 10) (oi := ?_) (v := ?_) ?_ ?_ ?_ ?_ ?_ ?_ ?_ ?_ ?_; rotate_left 2; (· simp only [List.getElem?_toArray, List.getElem?_cons_succ, List.getElem?_cons_zero]; exact rfl); (· kernel_rfl); (· kernel_rfl); (· kernel_rfl); (· kernel_rfl); (· first | exact fun _ _ _ h => h | exact fun _ _ _ h => (HPan.out _ _ _ h).elim); (· (refine Or.inl ⟨by rfl, ?_⟩; (intro w hSw; (try dsimp only at hSw); go_simp) <;> with_reducible rfl)); (· exact fun _ => hHeld); simp only [Act.put, List.setIfInBounds_toArray, List.set_cons_zero, List.set_cons_succ])
                (refine wpAnyM_takeP (i := 11) (oi := ?_) (v := ?_) ?_ ?_ ?_ ?_ ?_ ?_ ?_ ?_ ?_; rotate_left 2; (· simp only [List.getElem?_toArray, List.getElem?_cons_succ, List.getElem?_cons_zero]; exact rfl); (· kernel_rfl); (· kernel_rfl); (· kernel_rfl); (· kernel_rfl); (· first | exact fun _ _ _ h => h | exact fun _ _ _ h => (HPan.out _ _ _ h).elim); (· (refine Or.inl ⟨by rfl, ?_⟩; (intro w hSw; (try dsimp only at hSw); go_simp) <;> with_reducible rfl)); (· exact fun _ => hHeld); simp only [Act.put, List.setIfInBounds_toArray, List.set_cons_zero, List.set_cons_succ])
                refine wpAnyM_ready (rs := [12]) (by kernel_rfl) (by simp) ?_
                refine AllReadyM.free (o := ?_) ?_ (by kernel_rfl) ?_ ?_
                rotate_left 1
                · simp only [List.getElem?_toArray, List.getElem?_cons_succ, List.getElem?_cons_zero]; exact rfl
                rotate_left 1
                · exact AllReadyM.nil
                intro K hK
                go_simp
                refine hK.out _ _ ?_
                clear hK K
                refine wpAnyM_ready (rs := [13]) (by kernel_rfl) (by simp) ?_
                refine AllReadyM.free (o := ?_) ?_ (by kernel_rfl) ?_ ?_
                rotate_left 1
                · simp only [List.getElem?_toArray, List.getElem?_cons_succ, List.getElem?_cons_zero]; exact rfl
                rotate_left 1
                · exact AllReadyM.nil
                intro K hK
                go_simp
                refine hK.out _ _ ?_
                clear hK K
                refine wpAnyM_done (by kernel_rfl) ?_ _
                have hif : (if (m : Int) < (sk : Int) + 1 then (sk : Int) + 1 else (m : Int)) = ((max m (sk + 1) : Nat) : Int) := by split <;> omega
                rw [hif]
                obtain ⟨w9, hw9⟩ : ∃ w9, w9 = (w7.setCell ⟨gv, i, none⟩ (.int .i64 ((max m (sk + 1) : Nat) : Int))).drew := ⟨_, rfl⟩
                have H9 := Lib.hid (hw9 ▸ H8.out.drew)
                rw [← hw9]
                clear hw9 H8 hm0 hm1 hmx hw1 zf hHeld hif
                go_wp2_with fail
                go_roundg (t - (j + 1))
                case measure => have := HJ.out; omega
                case rel => exact ⟨j + 1, by omega, by go_num, H9.out⟩
            · skip
              refine wp_region_held_drew (S := fun w' => w'.cell? ⟨bs, os + i * 8, none⟩ = some (ir) ∧ w'.cell? ⟨bs, os + i * 8 + 1, none⟩ = some (iw) ∧ w'.cell? ⟨bs, os + i * 8 + 2, none⟩ = some (irr) ∧ w'.cell? ⟨bs, os + i * 8 + 3, none⟩ = some (irw) ∧ w'.cell? ⟨bs, os + i * 8 + 4, none⟩ = some (.bool ial) ∧ w'.cell? ⟨bs, os + i * 8 + 5, none⟩ = some (ipl) ∧ w'.cell? ⟨bs, os + i * 8 + 6, none⟩ = some (icd) ∧ w'.cell? ⟨bs, os + i * 8 + 7, none⟩ = some (iaf) ∧ w'.cell? ⟨bs, os + k * 8, none⟩ = some (kr) ∧ w'.cell? ⟨bs, os + k * 8 + 1, none⟩ = some (kw) ∧ w'.cell? ⟨bs, os + k * 8 + 2, none⟩ = some (krr) ∧ w'.cell? ⟨bs, os + k * 8 + 3, none⟩ = some (krw) ∧ w'.cell? ⟨bs, os + k * 8 + 4, none⟩ = some (.bool kal) ∧ w'.cell? ⟨bs, os + k * 8 + 5, none⟩ = some (kpl) ∧ w'.cell? ⟨bs, os + k * 8 + 6, none⟩ = some (kcd) ∧ w'.cell? ⟨bs, os + k * 8 + 7, none⟩ = some (kaf)) (by kernel_rfl) ?_ (fun hHeld => ?_)
              · (try dsimp only); go_keep
              refine wpAnyH_take (i := 0) (oi := ?_) (v := ?_) ?_ ?_ ?_ ?_ ?_ ?_ ?_ ?_
              rotate_left 2
              · simp only [List.getElem?_toArray, List.getElem?_cons_succ, List.getElem?_cons_zero]; exact rfl
              · kernel_rfl
              · kernel_rfl
              · kernel_rfl
              · first | exact fun _ _ _ h => h | exact fun _ _ _ h => (HPan.out _ _ _ h).elim
              · (refine Or.inl ⟨by rfl, ?_⟩; (intro w hSw; (try dsimp only at hSw); go_simp) <;> with_reducible rfl)
              · assumption
              simp only [Act.put, List.setIfInBounds_toArray, List.set_cons_zero, List.set_cons_succ]
              refine wpAnyH_take (i := 1) (oi := ?_) (v := ?_) ?_ ?_ ?_ ?_ ?_ ?_ ?_ ?_
              rotate_left 2
              · simp only [List.getElem?_toArray, List.getElem?_cons_succ, List.getElem?_cons_zero]; exact rfl
              · kernel_rfl
              · kernel_rfl
              · kernel_rfl
              · first | exact fun _ _ _ h => h | exact fun _ _ _ h => (HPan.out _ _ _ h).elim
              · (refine Or.inl ⟨by rfl, ?_⟩; (intro w hSw; (try dsimp only at hSw); go_simp) <;> with_reducible rfl)
              · assumption
              simp only [Act.put, List.setIfInBounds_toArray, List.set_cons_zero, List.set_cons_succ]
              refine wpAnyH_take (i := 2) (oi := ?_) (v := ?_) ?_ ?_ ?_ ?_ ?_ ?_ ?_ ?_
              rotate_left 2
              · simp only [List.getElem?_toArray, List.getElem?_cons_succ, List.getElem?_cons_zero]; exact rfl
              · kernel_rfl
              · kernel_rfl
              · kernel_rfl
              · first | exact fun _ _ _ h => h | exact fun _ _ _ h => (HPan.out _ _ _ h).elim
              · (refine Or.inl ⟨by rfl, ?_⟩; (intro w hSw; (try dsimp only at hSw); go_simp) <;> with_reducible rfl)
              · assumption
              simp only [Act.put, List.setIfInBounds_toArray, List.set_cons_zero, List.set_cons_succ]
              refine wpAnyH_take (i := 3) (oi := ?_) (v := ?_) ?_ ?_ ?_ ?_ ?_ ?_ ?_ ?_
              rotate_left 2
              · simp only [List.getElem?_toArray, List.getElem?_cons_succ, List.getElem?_cons_zero]; exact rfl
              · kernel_rfl
              · kernel_rfl
              · kernel_rfl
              · first | exact fun _ _ _ h => h | exact fun _ _ _ h => (HPan.out _ _ _ h).elim
              · (refine Or.inl ⟨by rfl, ?_⟩; (intro w hSw; (try dsimp only at hSw); go_simp) <;> with_reducible rfl)
              · assumption
              simp only [Act.put, List.setIfInBounds_toArray, List.set_cons_zero, List.set_cons_succ]
              refine wpAnyH_take (i := 4) (oi := ?_) (v := ?_) ?_ ?_ ?_ ?_ ?_ ?_ ?_ ?_
              rotate_left 2
              · simp only [List.getElem?_toArray, List.getElem?_cons_succ, List.getElem?_cons_zero]; exact rfl
              · kernel_rfl
              · kernel_rfl
              · kernel_rfl
              · first | exact fun _ _ _ h => h | exact fun _ _ _ h => (HPan.out _ _ _ h).elim
              · (refine Or.inl ⟨by rfl, ?_⟩; (intro w hSw; (try dsimp only at hSw); go_simp) <;> with_reducible rfl)
              · assumption
              simp only [Act.put, List.setIfInBounds_toArray, List.set_cons_zero, List.set_cons_succ]
              refine wpAnyH_take (i := 5) (oi := ?_) (v := ?_) ?_ ?_ ?_ ?_ ?_ ?_ ?_ ?_
              rotate_left 2
              · simp only [List.getElem?_toArray, List.getElem?_cons_succ, List.getElem?_cons_zero]; exact rfl
              · kernel_rfl
              · kernel_rfl
              · kernel_rfl
              · first | exact fun _ _ _ h => h | exact fun _ _ _ h => (HPan.out _ _ _ h).elim
              · (refine Or.inl ⟨by rfl, ?_⟩; (intro w hSw; (try dsimp only at hSw); go_simp) <;> with_reducible rfl)
              · assumption
              simp only [Act.put, List.setIfInBounds_toArray, List.set_cons_zero, List.set_cons_succ]
              refine wpAnyH_ready (rs := [6]) (by kernel_rfl) (by simp) ?_
              refine AllReadyH.cons rfl (fun K hK => ?_) (AllReadyH.nil)
              go_simp
              go_wp2_with ((go_at_call 56; refine (HC1.out _ (by (repeat (first | exact Keep.refl _ _ | apply Keep.drew | apply Keep.drewN | apply Keep.alloc)))).mono ?_; rintro e w6 ⟨rfl, rfl⟩))
              refine hK.out _ _ ?_ (fun hHeld => ?_)
              · (try dsimp only); go_keep
              clear hK K
              refine wpAnyH_take (i := 7) (oi := ?_) (v := ?_) ?_ ?_ ?_ ?_ ?_ ?_ ?_ ?_
              rotate_left 2
              · simp only [List.getElem?_toArray, List.getElem?_cons_succ, List.getElem?_cons_zero]; exact rfl
              · kernel_rfl
              · kernel_rfl
              · kernel_rfl
              · first | exact fun _ _ _ h => h | exact fun _ _ _ h => (HPan.out _ _ _ h).elim
              · (refine Or.inl ⟨by rfl, ?_⟩; (intro w hSw; (try dsimp only at hSw); go_simp) <;> with_reducible rfl)
              · assumption
              simp only [Act.put, List.setIfInBounds_toArray, List.set_cons_zero, List.set_cons_succ]
              refine wpAnyH_take (i := 8) (oi := ?_) (v := undef) ?_ ?_ ?_ ?_ ?_ ?_ ?_ ?_
              rotate_left 1
              · simp only [List.getElem?_toArray, List.getElem?_cons_succ, List.getElem?_cons_zero]; exact rfl
              · kernel_rfl
              · kernel_rfl
              · kernel_rfl
              · first | exact fun _ _ _ h => h | exact fun _ _ _ h => (HPan.out _ _ _ h).elim
              · exact Or.inr ⟨by rfl, rfl⟩
              · assumption
              simp only [Act.put, List.setIfInBounds_toArray, List.set_cons_zero, List.set_cons_succ]
              refine wpAnyH_take (i := 9) (oi := ?_) (v := undef) ?_ ?_ ?_ ?_ ?_ ?_ ?_ ?_
              rotate_left 1
              · simp only [List.getElem?_toArray, List.getElem?_cons_succ, List.getElem?_cons_zero]; exact rfl
              · kernel_rfl
              · kernel_rfl
              · kernel_rfl
              · first | exact fun _ _ _ h => h | exact fun _ _ _ h => (HPan.out _ _ _ h).elim
              · exact Or.inr ⟨by rfl, rfl⟩
              · assumption
              simp only [Act.put, List.setIfInBounds_toArray, List.set_cons_zero, List.set_cons_succ]
              refine wpAnyH_take (i := 10) (oi := ?_) (v := undef) ?_ ?_ ?_ ?_ ?_ ?_ ?_ ?_
              rotate_left 1
              · simp only [List.getElem?_toArray, List.getElem?_cons_succ, List.getElem?_cons_zero]; exact rfl
              · kernel_rfl
              · kernel_rfl
              · kernel_rfl
              · first | exact fun _ _ _ h => h | exact fun _ _ _ h => (HPan.out _ _ _ h).elim
              · exact Or.inr ⟨by rfl, rfl⟩
              · assumption
              simp only [Act.put, List.setIfInBounds_toArray, List.set_cons_zero, List.set_cons_succ]
              refine wpAnyH_take (i := 11) (oi := ?_) (v := undef) ?_ ?_ ?_ ?_ ?_ ?_ ?_ ?_
              rotate_left 1
              · simp only [List.getElem?_toArray, List.getElem?_cons_succ, List.getElem?_cons_zero]; exact rfl
              · kernel_rfl
              · kernel_rfl
              · kernel_rfl
              · first | exact fun _ _ _ h => h | exact fun _ _ _ h => (HPan.out _ _ _ h).elim
              · exact Or.inr ⟨by rfl, rfl⟩
              · assumption
              simp only [Act.put, List.setIfInBounds_toArray, List.set_cons_zero, List.set_cons_succ]
              refine wpAnyH_take (i := 12) (oi := ?_) (v := undef) ?_ ?_ ?_ ?_ ?_ ?_ ?_ ?_
              rotate_left 1
              · simp only [List.getElem?_toArray, List.getElem?_cons_succ, List.getElem?_cons_zero]; exact rfl
              · kernel_rfl
              · kernel_rfl
              · kernel_rfl
              · first | exact fun _ _ _ h => h | exact fun _ _ _ h => (HPan.out _ _ _ h).elim
              · exact Or.inr ⟨by rfl, rfl⟩
              · assumption
              simp only [Act.put, List.setIfInBounds_toArray, List.set_cons_zero, List.set_cons_succ]
              refine wpAnyH_take (i := 13) (oi := ?_) (v := undef) ?_ ?_ ?_ ?_ ?_ ?_ ?_ ?_
              rotate_left 1
              · simp only [List.getElem?_toArray, List.getElem?_cons_succ, List.getElem?_cons_zero]; exact rfl
              · kernel_rfl
              · kernel_rfl
              · kernel_rfl
              · first | exact fun _ _ _ h => h | exact fun _ _ _ h => (HPan.out _ _ _ h).elim
              · exact Or.inr ⟨by rfl, rfl⟩
              · assumption
              simp only [Act.put, List.setIfInBounds_toArray, List.set_cons_zero, List.set_cons_succ]
              refine wpAnyH_take (i := 14) (oi := ?_) (v := undef) ?_ ?_ ?_ ?_ ?_ ?_ ?_ ?_
              rotate_left 1
              · simp only [List.getElem?_toArray, List.getElem?_cons_succ, List.getElem?_cons_zero]; exact rfl
              · kernel_rfl
              · kernel_rfl
              · kernel_rfl
              · first | exact fun _ _ _ h => h | exact fun _ _ _ h => (HPan.out _ _ _ h).elim
              · exact Or.inr ⟨by rfl, rfl⟩
              · assumption
              simp only [Act.put, List.setIfInBounds_toArray, List.set_cons_zero, List.set_cons_succ]
              refine wpAnyH_take (i := 15) (oi := ?_) (v := undef) ?_ ?_ ?_ ?_ ?_ ?_ ?_ ?_
              rotate_left 1
              · simp only [List.getElem?_toArray, List.getElem?_cons_succ, List.getElem?_cons_zero]; exact rfl
              · kernel_rfl
              · kernel_rfl
              · kernel_rfl
              · first | exact fun _ _ _ h => h | exact fun _ _ _ h => (HPan.out _ _ _ h).elim
              · exact Or.inr ⟨by rfl, rfl⟩
              · assumption
              simp only [Act.put, List.setIfInBounds_toArray, List.set_cons_zero, List.set_cons_succ]
              refine wpAnyH_take (i := 16) (oi := ?_) (v := undef) ?_ ?_ ?_ ?_ ?_ ?_ ?_ ?_
              rotate_left 1
              · simp only [List.getElem?_toArray, List.getElem?_cons_succ, List.getElem?_cons_zero]; exact rfl
              · kernel_rfl
              · kernel_rfl
              · kernel_rfl
              · first | exact fun _ _ _ h => h | exact fun _ _ _ h => (HPan.out _ _ _ h).elim
              · exact Or.inr ⟨by rfl, rfl⟩
              · assumption
              simp only [Act.put, List.setIfInBounds_toArray, List.set_cons_zero, List.set_cons_succ]
              refine wpAnyH_take (i := 17) (oi := ?_) (v := ?_) ?_ ?_ ?_ ?_ ?_ ?_ ?_ ?_
              rotate_left 2
              · simp only [List.getElem?_toArray, List.getElem?_cons_succ, List.getElem?_cons_zero]; exact rfl
              · kernel_rfl
              · kernel_rfl
              · kernel_rfl
              · first | exact fun _ _ _ h => h | exact fun _ _ _ h => (HPan.out _ _ _ h).elim
              · (refine Or.inl ⟨by rfl, ?_⟩; (intro w hSw; (try dsimp only at hSw); go_simp) <;> with_reducible rfl)
              · assumption
              simp only [Act.put, List.setIfInBounds_toArray, List.set_cons_zero, List.set_cons_succ]
              refine wpAnyH_done (by kernel_rfl) ?_ _
              obtain ⟨w7, hw7⟩ : ∃ w7, w7 = wr.drew := ⟨_, rfl⟩
              have H7 := Lib.hid (show St w w7 _ from hw7 ▸ H4.out.drew)
              rw [← hw7]
              clear HC1 HC2 i0 i1 i2 i3 i4 i5 i6 i7 k0 k1 k2 k3 k4 k5 k6 k7 hc0 hHeld hw7
              go_upto_region 12 with (fail)
              obtain ⟨G0, _, hrd0, _⟩ := H7.out.rd 1 rfl
              obtain ⟨bz, oz, ⟨c', hv⟩, _, hm0⟩ := (show Rd G0 w7 (.slice (some ⟨gv, 0, none⟩) n n) n (ints (nats ((stK (depX l) o n t).set i (lev (depX l) (stK (depX l) o n t) (o.take j) i 0)))) from hrd0).int (k := i) (nats_get (List.getElem?_set_self (by rw [stK_len]; exact him)))
              injection hv with hv1 hv2 hv3
              injection hv1 with hv1
              injection hv1 with hv1 hv4
              subst hv1; subst hv4; subst hv3; clear hv2
              obtain ⟨bz, oz, ⟨c', hv⟩, _, hm1⟩ := (show Rd G0 w7 (.slice (some ⟨gv, 0, none⟩) n n) n (ints (nats ((stK (depX l) o n t).set i (lev (depX l) (stK (depX l) o n t) (o.take j) i 0)))) from hrd0).int (k := k) (nats_get (by rw [List.getElem?_set_ne hik]; exact getD_some (by rw [stK_len]; exact hkm)))
              injection hv with hv1 hv2 hv3
              injection hv1 with hv1
              injection hv1 with hv1 hv4
              subst hv1; subst hv4; subst hv3; clear hv2
              have hsk := stK_le (dep := depX l) (o := o) (n := n) t k
              have hlm := lev_le (dep := depX l) (out := stK (depX l) o n t) (i := i) (b := 100) (o.take j) 0 (by omega) (fun q _ => by have := stK_le (dep := depX l) (o := o) (n := n) t q; omega)
              obtain ⟨g', he', hgl, hgf, hgc, hst8⟩ := H7.out.store 1 (n := n) (a := some ⟨gv, 0, none⟩) (c := n) (e := 3) (size := 1) (xs := ints (nats ((stK (depX l) o n t).set i (lev (depX l) (stK (depX l) o n t) (o.take j) i 0)))) rfl (by omega)
              injection he' with he'
              injection he' with he'
              subst he'
              have zf := hgf i
              have hnew := HLS.out
              rw [HDEP.out] at hnew
              simp only [Bool.or_true, Bool.true_or, if_true] at hnew
              obtain ⟨m, hm⟩ : ∃ m, lev (depX l) (stK (depX l) o n t) (o.take j) i 0 = m := ⟨_, rfl⟩
              obtain ⟨sk, hsk2⟩ : ∃ sk, (stK (depX l) o n t).getD k 0 = sk := ⟨_, rfl⟩
              rw [hm] at hm0 hlm hnew
              rw [hsk2] at hm1 hsk hnew
              have h8 := hst8 i (.int .i64 ((max m (sk + 1) : Nat) : Int))
              rw [show (ints (nats ((stK (depX l) o n t).set i (lev (depX l) (stK (depX l) o n t) (o.take j) i 0)))).set i (.int .i64 ((max m (sk + 1) : Nat) : Int)) = ints (nats ((stK (depX l) o n t).set i (lev (depX l) (stK (depX l) o n t) (o.take (j + 1)) i 0))) by rw [ints_set, nats_set, List.set_set, hnew]] at h8
              have H8 := Lib.hid (show St w (w7.setCell ⟨gv, i, none⟩ (.int .i64 ((max m (sk + 1) : Nat) : Int))) (OfL (.slice (some ⟨bo, oo, none⟩) n c1) (.slice (some ⟨gv, 0, none⟩) n n) n o ((stK (depX l) o n t).set i (lev (depX l) (stK (depX l) o n t) (o.take (j + 1)) i 0))) from h8)
              simp at hm0 hm1
              have hmx : max (m : Int) ((sk : Int) + 1) = ((max m (sk + 1) : Nat) : Int) := by omega
              have hw1 : IntKind.i64.wrap ((sk : Int) + 1) = (sk : Int) + 1 := IntWalk.i64_in _ (by omega)
              have hm100 : (m : Int) ≤ 100 := by omega
              have hsk100 : (sk : Int) ≤ 100 := by omega
              clear hrd0 hst8 hgf hgc h8 hnew hm hsk2 hlm hsk H4 H7
              refine wp_region_M (r := 12) (S := fun w' => w'.cell? ⟨gv, i, none⟩ = some (.int .i64 (m : Int)) ∧ w'.cell? ⟨gv, k, none⟩ = some (.int .i64 (sk : Int))) (by kernel_rfl) ?_ (fun hHeld => ?_)
              · (try dsimp only); go_keep
              (refine wpAnyM_takeP (i := 0) (oi := ?_) (v := ?_) ?_ ?_ ?_ ?_ ?_ ?_ ?_ ?_ ?_; rotate_left 2; (· simp only [List.getElem?_toArray, List.getElem?_cons_succ, List.getElem?_cons_zero]; exact rfl); (· kernel_rfl); (· kernel_rfl); (· kernel_rfl); (· kernel_rfl); (· first | exact fun _ _ _ h => h | exact fun _ _ _ h => (HPan.out _ _ _ h).elim); (· (refine Or.inl ⟨by rfl, ?_⟩; (intro w hSw; (try dsimp only at hSw); go_simp) <;> with_reducible rfl)); (· exact fun _ => hHeld); simp only [Act.put, List.setIfInBounds_toArray, List.set_cons_zero, List.set_cons_succ])
              (refine wpAnyM_takeP (i := 1) (oi := ?_) (v := ?_) ?_ ?_ ?_ ?_ ?_ ?_ ?_ ?_ ?_; rotate_left 2; (· simp only [List.getElem?_toArray, List.getElem?_cons_succ, List.getElem?_cons_zero]; exact rfl); (· kernel_rfl); (· kernel_rfl); (· kernel_rfl); (· kernel_rfl); (· first | exact fun _ _ _ h => h | exact fun _ _ _ h => (HPan.out _ _ _ h).elim); (· (refine Or.inl ⟨by rfl, ?_⟩; (intro w hSw; (try dsimp only at hSw); go_simp) <;> with_reducible rfl)); (· exact fun _ => hHeld); simp only [Act.put, List.setIfInBounds_toArray, List.set_cons_zero, List.set_cons_succ])
              (refine wpAnyM_takeP (i := 2) (oi := ?_) (v := ?_) ?_ ?_ ?_ ?_ ?_ ?_ ?_ ?_ ?_; rotate_left 2; (· simp only [List.getElem?_toArray, List.getElem?_cons_succ, List.getElem?_cons_zero]; exact rfl); (· kernel_rfl); (· kernel_rfl); (· kernel_rfl); (· kernel_rfl); (· first | exact fun _ _ _ h => h | exact fun _ _ _ h => (HPan.out _ _ _ h).elim); (· (refine Or.inl ⟨by rfl, ?_⟩; (intro w hSw; (try dsimp only at hSw); go_simp) <;> with_reducible rfl)); (· exact fun _ => hHeld); simp only [Act.put, List.setIfInBounds_toArray, List.set_cons_zero, List.set_cons_succ])
              (refine wpAnyM_takeP (i := 3) (oi := ?_) (v := ?_) ?_ ?_ ?_ ?_ ?_ ?_ ?_ ?_ ?_; rotate_left 2; (· simp only [List.getElem?_toArray, List.getElem?_cons_succ, List.getElem?_cons_zero]; exact rfl); (· kernel_rfl); (· kernel_rfl); (· kernel_rfl); (· kernel_rfl); (· first | exact fun _ _ _ h => h | exact fun _ _ _ h => (HPan.out _ _ _ h).elim); (· (refine Or.inl ⟨by rfl, ?_⟩; (intro w hSw; (try dsimp only at hSw); go_simp) <;> with_reducible rfl)); (· exact fun _ => hHeld); simp only [Act.put, List.setIfInBounds_toArray, List.set_cons_zero, List.set_cons_succ])
              (refine wpAnyM_takeP (i := 4) (oi := ?_) (v := ?_) ?_ ?_ ?_ ?_ ?_ ?_ ?_ ?_ ?_; rotate_left 2; (· simp only [List.getElem?_toArray, List.getElem?_cons_succ, List.getElem?_cons_zero]; exact rfl); (· kernel_rfl); (· kernel_rfl); (· kernel_rfl); (· kernel_rfl); (· first | exact fun _ _ _ h => h | exact fun _ _ _ h => (HPan.out _ _ _ h).elim); (· (refine Or.inl ⟨by rfl, ?_⟩; (intro w hSw; (try dsimp only at hSw); go_simp) <;> with_reducible rfl)); (· exact fun _ => hHeld); simp only [Act.put, List.setIfInBounds_toArray, List.set_cons_zero, List.set_cons_succ])
              (refine wpAnyM_take (i := 5) (oi := ?_) (v := ?_) ?_ ?_ ?_ ?_ ?_ ?_ ?_ ?_ ?_ ?_; rotate_left 2; (· simp only [List.getElem?_toArray, List.getElem?_cons_succ, List.getElem?_cons_zero]; exact rfl); (· kernel_rfl); (· kernel_rfl); (· kernel_rfl); (· kernel_rfl); (· kernel_rfl); (· first | exact fun _ _ _ h => h | exact fun _ _ _ h => (HPan.out _ _ _ h).elim); (· (refine Or.inl ⟨by rfl, ?_⟩; (intro w hSw; (try dsimp only at hSw); go_simp) <;> with_reducible rfl)); (· assumption); simp only [Act.put, List.setIfInBounds_toArray, List.set_cons_zero, List.set_cons_succ])
              (refine wpAnyM_takeP (i := 6) (oi := ?_) (v := ?_) ?_ ?_ ?_ ?_ ?_ ?_ ?_ ?_ ?_; rotate_left 2; (· simp only [List.getElem?_toArray, List.getElem?_cons_succ, List.getElem?_cons_zero]; exact rfl); (· kernel_rfl); (· kernel_rfl); (· kernel_rfl); (· kernel_rfl); (· first | exact fun _ _ _ h => h | exact fun _ _ _ h => (HPan.out _ _ _ h).elim); (· (refine Or.inl ⟨by rfl, ?_⟩; (intro w hSw; (try dsimp only at hSw); go_simp) <;> with_reducible rfl)); (· exact fun _ => hHeld); simp only [Act.put, List.setIfInBounds_toArray, List.set_cons_zero, List.set_cons_succ])
              (refine wpAnyM_takeP (i := 7) (oi := ?_) (v := ?_) ?_ ?_ ?_ ?_ ?_ ?_ ?_ ?_ ?_; rotate_left 2; (· simp only [List.getElem?_toArray, List.getElem?_cons_succ, List.getElem?_cons_zero]; exact rfl); (· kernel_rfl); (· kernel_rfl); (· kernel_rfl); (· kernel_rfl); (· first | exact fun _ _ _ h => h | exact fun _ _ _ h => (HPan.out _ _ _ h).elim); (· (refine Or.inl ⟨by rfl, ?_⟩; (intro w hSw; (try dsimp only at hSw); go_simp) <;> with_reducible rfl)); (· exact fun _ => hHeld); simp only [Act.put, List.setIfInBounds_toArray, List.set_cons_zero, List.set_cons_succ])
              (refine wpAnyM_takeP (i := 8) (oi := ?_) (v := ?_) ?_ ?_ ?_ ?_ ?_ ?_ ?_ ?_ ?_; rotate_left 2; (· simp only [List.getElem?_toArray, List.getElem?_cons_succ, List.getElem?_cons_zero]; exact rfl); (· kernel_rfl); (· kernel_rfl); (· kernel_rfl); (· kernel_rfl); (· first | exact fun _ _ _ h => h | exact fun _ _ _ h => (HPan.out _ _ _ h).elim); (· (refine Or.inl ⟨by rfl, ?_⟩; (intro w hSw; (try dsimp only at hSw); go_simp) <;> with_reducible rfl)); (· exact fun _ => hHeld); simp only [Act.put, List.setIfInBounds_toArray, List.set_cons_zero, List.set_cons_succ])
              (refine wpAnyM_take (i := 9) (oi := ?_) (v := ?_) ?_ ?_ ?_ ?_ ?_ ?_ ?_ ?_ ?_ ?_; rotate_left 2; (· simp only [List.getElem?_toArray, List.getElem?_cons_succ, List.getElem?_cons_zero]; exact rfl); (· kernel_rfl); (· kernel_rfl); (· kernel_rfl); (· kernel_rfl); (· kernel_rfl); (· first | exact fun _ _ _ h => h | exact fun _ _ _ h => (HPan.out _ _ _ h).elim); (· (refine Or.inl ⟨by rfl, ?_⟩; (intro w hSw; (try dsimp only at hSw); go_simp) <;> with_reducible rfl)); (· assumption); simp only [Act.put, List.setIfInBounds_toArray, List.set_cons_zero, List.set_cons_succ])
              (refine wpAnyM_takeP (i := 10) (oi := ?_) (v := ?_) ?_ ?_ ?_ ?_ ?_ ?_ ?_ ?_ ?_; rotate_left 2; (· simp only [List.getElem?_toArray, List.getElem?_cons_succ, List.getElem?_cons_zero]; exact rfl); (· kernel_rfl); (· kernel_rfl); (· kernel_rfl); (· kernel_rfl); (· first | exact fun _ _ _ h => h | exact fun _ _ _ h => (HPan.out _ _ _ h).elim); (· (refine Or.inl ⟨by rfl, ?_⟩; (intro w hSw; (try dsimp only at hSw); go_simp) <;> with_reducible rfl)); (· exact fun _ => hHeld); simp only [Act.put, List.setIfInBounds_toArray, List.set_cons_zero, List.set_cons_succ])
              (refine wpAnyM_takeP (i := 11) (oi := ?_) (v := ?_) ?_ ?_ ?_ ?_ ?_ ?_ ?_ ?_ ?_; rotate_left 2; (· simp only [List.getElem?_toArray, List.getElem?_cons_succ, List.getElem?_cons_zero]; exact rfl); (· kernel_rfl); (· kernel_rfl); (· kernel_rfl); (· kernel_rfl); (· first | exact fun _ _ _ h => h | exact fun _ _ _ h => (HPan.out _ _ _ h).elim); (· (refine Or.inl ⟨by rfl, ?_⟩; (intro w hSw; (try dsimp only at hSw); go_simp) <;> with_reducible rfl)); (· exact fun _ => hHeld); simp only [Act.put, List.setIfInBounds_toArray, List.set_cons_zero, List.set_cons_succ])
              refine wpAnyM_ready (rs := [12]) (by kernel_rfl) (by simp) ?_
              refine AllReadyM.free (o := ?_) ?_ (by kernel_rfl) ?_ ?_
              rotate_left 1
              · simp only [List.getElem?_toArray, List.getElem?_cons_succ, List.getElem?_cons_zero]; exact rfl
              rotate_left 1
              · exact AllReadyM.nil
              intro K hK
              go_simp
              refine hK.out _ _ ?_
              clear hK K
              refine wpAnyM_ready (rs := [13]) (by kernel_rfl) (by simp) ?_
              refine AllReadyM.free (o := ?_) ?_ (by kernel_rfl) ?_ ?_
              rotate_left 1
              · simp only [List.getElem?_toArray, List.getElem?_cons_succ, List.getElem?_cons_zero]; exact rfl
              rotate_left 1
              · exact AllReadyM.nil
              intro K hK
              go_simp
              refine hK.out _ _ ?_
              clear hK K
              refine wpAnyM_done (by kernel_rfl) ?_ _
              have hif : (if (m : Int) < (sk : Int) + 1 then (sk : Int) + 1 else (m : Int)) = ((max m (sk + 1) : Nat) : Int) := by split <;> omega
              rw [hif]
              obtain ⟨w9, hw9⟩ : ∃ w9, w9 = (w7.setCell ⟨gv, i, none⟩ (.int .i64 ((max m (sk + 1) : Nat) : Int))).drew := ⟨_, rfl⟩
              have H9 := Lib.hid (hw9 ▸ H8.out.drew)
              rw [← hw9]
              clear hw9 H8 hm0 hm1 hmx hw1 zf hHeld hif
              go_wp2_with fail
              go_roundg (t - (j + 1))
              case measure => have := HJ.out; omega
              case rel => exact ⟨j + 1, by omega, by go_num, H9.out⟩
          · obtain rfl : j = t := by omega
            have hjd : decide ((j : Int) < j) = false := decide_eq_false (by omega)
            go_wp2_with fail
            go_roundg (n - (j + 1))
            case measure => have := HT.out; omega
            case rel => exact ⟨j + 1, by omega, by go_num, by rw [stK_succ HI.out]; exact H4.out⟩
      · obtain rfl : t = n := by omega
        have htd : decide ((t : Int) < t) = false := decide_eq_false (by omega)
        go_wp2_with fail
        go_ret2
        have hs : stK (depX l) o t t = stg (depX l) o t := by unfold stg; rw [HOL.out]
        rw [hs] at H3
        obtain ⟨G, hG, hG2⟩ := H3.out.get 1 rfl
        exact ⟨_, _, _, rfl, Keep.ofSt H3.out, Own.mono hG hG2⟩
  · have h0' : ∀ s : List Nat, (if chk (aftX l) = 0 then s else []) = [] := fun s => if_neg h0
    have HR : Hid (RetOrder w (aftX l) = fun en w' => ∃ (a : Option Addr) (n c : Nat), en = .returned (.tuple #[.slice a n c, .int .i64 (chk (aftX l))]) ∧ Keep w w' Nope ∧ Own (New w w') w' 3 1 (.slice a n c) n (ints (nats []))) := Lib.hid (by
      unfold RetOrder
      rw [h0'])
    have HF : Hid (RetOf w (aftX l) (stg (depX l) (ord (aftX l)) l.length) = fun en w' => ∃ (a : Option Addr) (n c : Nat), en = .returned (.tuple #[.slice a n c, .int .i64 (chk (aftX l))]) ∧ Keep w w' Nope ∧ Own (New w w') w' 3 1 (.slice a n c) n (ints (nats []))) := Lib.hid (by
      unfold RetOf
      rw [h0'])
    rw [HF.out]
    rw [HR.out] at HO
    clear h0' HR HF
    obtain ⟨ec, hec⟩ : ∃ ec, chk (aftX l) = ec := ⟨_, rfl⟩
    rw [hec] at HO h0 ⊢
    have hne : (ec != 0) = true := by simp [h0]
    obtain ⟨n, hn⟩ : ∃ n, l.length = n := ⟨_, rfl⟩
    rw [hn] at HO ⊢
    clear h0 hec
    go_enter Try.func33, Try.ntmps33
    go_wp2_with fail
    refine HO.out.mono ?_
    rintro e w1 ⟨a1, n1, c1, rfl, hk1, hown⟩
    have HK := Lib.hid hk1
    clear hk1 hown
    go_wp2_with fail
    go_ret2
    exact ⟨none, 0, 0, rfl, HK.out, Own.nil _ _ _ _⟩
end Go.Proofs.Ytbigknmeooaidaa
