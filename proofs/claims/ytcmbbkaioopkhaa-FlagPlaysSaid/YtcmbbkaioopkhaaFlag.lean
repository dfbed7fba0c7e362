/-
  Events, and the package flag: function by function.
-/
import Derived.Test.YtcmbbkaioopkhaaProg
import Derived.Test.YtcmbbkaioopkhaaMake
import Derived.Deep.RegionHeld3
import Derived.Lib.AppendZerosOnto
namespace Go.Proofs.Ytcmbbkaioopkhaa
open Go Go.RowKit
set_option linter.unusedVariables false
set_option linter.unusedSimpArgs false

/-- It answers v, and nothing old has turned. -/
def Ret (w : World) (v : Value) (en : Ending) (w' : World) : Prop := en = .returned v ∧ Keep w w' Nope
/-- A slice of the call's own, new behind w, is handed back; nothing old has turned. -/
def RetOwn (w : World) (e : TypeId) (size : Nat) (xs : List Value) (en : Ending) (w' : World) : Prop :=
  ∃ a n c, en = .returned (.slice a n c) ∧ Own (New w w') w' e size (.slice a n c) n xs ∧ Keep w w' Nope

/-- An event. -/
structure EvV where
  kind : Int
  idx : Int
deriving DecidableEq
def EvV.cells (o : EvV) : List Value := [.int .i64 o.kind, .int .i64 o.idx]
def EvV.val (o : EvV) : Value := .agg #[.int .i64 o.kind, .int .i64 o.idx]
def flatEv (l : List EvV) : List Value := l.flatMap EvV.cells
theorem flatEv_len (l : List EvV) : (flatEv l).length = l.length * 2 := flat_length EvV.cells 2 (fun _ => rfl) l
theorem flatEv_app (a b : List EvV) : flatEv (a ++ b) = flatEv a ++ flatEv b := by simp [flatEv]
theorem flatEv_one (l : List EvV) : ∀ u ∈ flatEv l, u.oneCell' = true := by
  intro u hu
  obtain ⟨o, _, ho⟩ := List.mem_flatMap.1 hu
  simp [EvV.cells] at ho
  rcases ho with rfl | rfl <;> rfl
theorem slEv : SlTy Try.prog 35 34 2 16 := SlTy.mk' (.agg #[.int .i64 0, .int .i64 0]) Try.underlying35 (by kernel_rfl) rfl (by decide)

/-- Whether an event may not be. -/
def badEv (o : EvV) : Bool := decide (o.kind < 1) || (decide (3 < o.kind) || decide (o.idx < 0))

set_option maxHeartbeats 400000 in
theorem flag_bad (o : EvV) (w : World) : Calls Try.prog 39 #[o.val] w (Ret w (.bool (badEv o))) := by
  obtain ⟨k, i⟩ := o
  simp only [EvV.val]
  by_cases h1 : k < 1
  · have e : badEv ⟨k, i⟩ = true := by simp [badEv, h1]
    rw [e]; clear e
    go_enter Try.func39, Try.ntmps39
    go_wp2_with fail
    go_ret
    exact ⟨rfl, (Keep.refl _ _).alloc _⟩
  · by_cases h2 : 3 < k
    · have e : badEv ⟨k, i⟩ = true := by simp [badEv, h2]
      rw [e]; clear e
      go_enter Try.func39, Try.ntmps39
      go_wp2_with fail
      go_ret
      exact ⟨rfl, (Keep.refl _ _).alloc _⟩
    · have e : badEv ⟨k, i⟩ = decide (i < 0) := by simp [badEv, h1, h2]
      rw [e]; clear e
      go_enter Try.func39, Try.ntmps39
      go_wp2_with fail
      go_ret
      exact ⟨rfl, (Keep.refl _ _).alloc _⟩

def RetIx (w : World) (l : List EvV) (en : Ending) (w' : World) : Prop := ∃ i : Int, en = .returned (.int .i64 i) ∧ ((0 ≤ i) = (l.any badEv = true)) ∧ Keep w w' Nope
def LoopIx (w : World) (l : List EvV) (g : Nat) (v8 : Value) (wr : World) : Prop :=
  ∃ k : Nat, g + k = l.length ∧ v8 = .int .i64 k ∧ (∀ j o, j < k → l[j]? = some o → badEv o = false) ∧ Keep w wr Nope

set_option maxHeartbeats 1000000 in
theorem index_ev (v : Value) (l : List EvV) (w : World) (S : Nat → Prop) (h : Rd S w v l.length (flatEv l)) :
    Calls Try.prog 51 #[v, .func (.func 39) #[] #[]] w (RetIx w l) := by
  obtain ⟨a, c, rfl, h1, h2, h3, h4⟩ := id h
  have hlen : l.length ≤ 9223372036854775807 := by unfold maxLen at h2; omega
  clear h1 h2 h3 h4
  have H := Lib.hid h; clear h
  go_enter Try.func51, Try.ntmps51
  go_wp2_with fail
  go_loopg [8] l.length (fun g v8 wr => LoopIx w l g v8 wr)
  case atStart => exact ⟨0, rfl, rfl, fun j o h => by omega, Keep.refl _ _⟩
  case round =>
    obtain ⟨k, hk, rfl, hall, hkeep⟩ := hrel
    have hkl : k ≤ l.length := by omega
    have HK := Lib.hid hk; clear hk
    have HA := Lib.hid hall; clear hall
    have HP := Lib.hid hkeep; clear hkeep
    by_cases hlt : k < l.length
    · obtain ⟨o, ho⟩ : ∃ o, l[k]? = some o := ⟨_, List.getElem?_eq_getElem hlt⟩
      obtain ⟨bo, oo, rfl, hbo, hco⟩ := (H.out.keep HP.out (fun _ _ f => f)).elem (cells := EvV.cells) (size := 2) (fun _ => rfl) (by decide) ho
      have HO := Lib.hid ho; clear ho
      have HC := Lib.hid (flag_bad o)
      obtain ⟨ok, hok⟩ : ∃ ok, badEv o = ok := ⟨_, rfl⟩
      rw [hok] at HC
      have HOK := Lib.hid hok; clear hok
      obtain ⟨kind, idx⟩ := o
      have hc0 := hco 0 (by decide)
      have hc1 := hco 1 (by decide)
      simp [EvV.cells] at hc0 hc1
      clear hco
      simp only [EvV.val] at HC
      cases ok
      · go_wp2_with fail
        refine (HC.out _).mono ?_
        rintro e w1 ⟨rfl, hk1⟩
        have HK1 := Lib.hid hk1; clear hk1
        go_wp2_with fail
        go_roundg (l.length - (k + 1))
        case measure => have := HK.out; omega
        case rel =>
          refine ⟨k + 1, by omega, by go_num, fun j o' hj ho' => ?_, HP.out.trans HK1.out (fun _ f => f.elim)⟩
          by_cases e : j = k
          · subst e
            rw [HO.out] at ho'
            cases ho'
            exact HOK.out
          · exact HA.out j o' (by omega) ho'
      · go_wp2_with fail
        refine (HC.out _).mono ?_
        rintro e w1 ⟨rfl, hk1⟩
        have HK1 := Lib.hid hk1; clear hk1
        go_wp2_with fail
        go_ret
        refine ⟨k, rfl, ?_, HP.out.trans HK1.out (fun _ f => f.elim)⟩
        have : l.any badEv = true := List.any_eq_true.2 ⟨_, List.mem_of_getElem? HO.out, HOK.out⟩
        rw [this]
        simp
    · go_wp2_with fail
      go_ret
      refine ⟨-1, rfl, ?_, HP.out⟩
      have : l.any badEv = false := by
        rw [List.any_eq_false]
        intro o ho
        obtain ⟨j, hj, rfl⟩ := List.getElem_of_mem ho
        simp [HA.out j _ (by omega) (List.getElem?_eq_getElem hj)]
      rw [this]
      simp

set_option maxHeartbeats 400000 in
theorem contains_ev (v : Value) (l : List EvV) (w : World) (S : Nat → Prop) (h : Rd S w v l.length (flatEv l)) :
    Calls Try.prog 38 #[v, .func (.func 39) #[] #[]] w (Ret w (.bool (l.any badEv))) := by
  have H := Lib.hid h; clear h
  obtain ⟨b, hb⟩ : ∃ b, l.any badEv = b := ⟨_, rfl⟩
  rw [hb]
  have HB := Lib.hid hb; clear hb
  go_enter Try.func38, Try.ntmps38
  go_wp2_with fail
  refine (index_ev v l _ S H.out).mono ?_
  rintro e w1 ⟨i, rfl, hi, hk⟩
  have HI := Lib.hid hi; clear hi
  have HK := Lib.hid hk; clear hk
  cases b
  · have hi : i < 0 := by
      have := HI.out
      rw [HB.out] at this
      simp at this
      exact this
    have hd : decide (0 ≤ i) = false := decide_eq_false (by omega)
    go_wp2_with fail
    go_ret
    exact ⟨rfl, HK.out⟩
  · have hi : 0 ≤ i := by
      have := HI.out
      rw [HB.out] at this
      simpa using this
    go_wp2_with fail
    go_ret
    exact ⟨rfl, HK.out⟩

set_option maxHeartbeats 400000 in
theorem clone_ev (v : Value) (n : Nat) (xs : List Value) (w : World) (S : Nat → Prop) (h : Rd S w v n xs) (hl : xs.length = n * 2) (hone : ∀ u ∈ xs, u.oneCell' = true) (hb : n * 16 ≤ 140737488355328) :
    Calls Try.prog 41 #[v] w (RetOwn w 34 2 xs) := by
  have hmx : 0 + n ≤ maxLen := by unfold maxLen; omega
  have hbb : (0 + n) * 16 ≤ 140737488355328 := by omega
  obtain ⟨a, c, rfl, h1, h2, h3, h4⟩ := id h
  have hnil := fun w' => Lib.run_eql_slice_nil (P := Try.prog) w' 35 34 a n c 0 0 Try.underlying35
  clear h1 h2 h4
  cases a with
  | none =>
    obtain ⟨hn, hc⟩ := h3 rfl
    clear h3
    subst hn
    subst hc
    have hx : xs = [] := List.eq_nil_of_length_eq_zero (by simpa using hl)
    subst hx
    clear hl hone hb hmx hbb
    simp only [Option.isNone_none] at hnil
    go_enter Try.func41, Try.ntmps41
    go_wp2_with fail
    go_ret
    exact ⟨_, _, _, rfl, Own.nil _ _ _ _, Keep.refl _ _⟩
  | some ad =>
    clear h3
    simp only [Option.isNone_some] at hnil
    have HL := Lib.hid hl; clear hl
    have HO := Lib.hid hone; clear hone
    go_enter Try.func41, Try.ntmps41
    go_wp2_with (at_builtin; refine wpList_app (P := Try.prog) slEv rfl _ _ rfl (S := fun i => w.heap.size ≤ i) (S2 := S) (n := 0) (xs := []) (m := n) (news := xs) rfl rfl ?hown ?hx ?hl ?h1 hbb hmx ?_)
    case hown => exact Own.lit w _ 2 0 #[] (Nat.zero_le _) rfl (Nat.le_refl _)
    case hx => exact h.alloc _
    case hl => exact HL.out
    case h1 => exact HO.out
    rintro a' k c' w1 ⟨ho, _, hk1, _⟩
    clear hnil h hbb hmx hb
    have HO1 := Lib.hid ho; clear ho
    have HK := Lib.hid hk1; clear hk1
    go_wp2_with fail
    go_ret
    exact ⟨_, _, _, rfl, (HO1.out.mono (fun i h => h.elim id (fun h => by have := h.1; simp at this; omega))).new, (Keep.alloc (Keep.refl w Nope) _).trans HK.out (fun i h => .inr h)⟩


/-- Room for n events, none there yet. -/
def RetGrow (w : World) (n : Nat) (en : Ending) (w' : World) : Prop :=
  ∃ a c, en = .returned (.slice a 0 c) ∧ Own (New w w') w' 34 2 (.slice a 0 c) 0 [] ∧ Keep w w' Nope

set_option maxHeartbeats 1000000 in
theorem grow_ev (n : Nat) (hn : n ≤ 1000000) (w : World) :
    Calls Try.prog 52 #[.slice none 0 0, .int .i64 n] w (RetGrow w n) := by
  by_cases h0 : n = 0
  · subst h0
    go_enter Try.func52, Try.ntmps52
    go_wp2_with fail
    go_ret
    exact ⟨none, 0, rfl, Own.nil _ _ _ _, Keep.refl _ _⟩
  · have h1 : 0 < n := by omega
    have hi : (Try.prog.info? 34).map (fun i => (i.zero, i.size, i.bytes)) = some (some (.agg #[.int .i64 0, .int .i64 0]), 2, 16) := by kernel_rfl
    obtain ⟨i, e1, e2, e3, e4⟩ := info_parts hi
    have hr := fun ty => Lib.run_append_nil_zeros (P := Try.prog) w 35 3 ty 34 i (.agg #[.int .i64 0, .int .i64 0]) .i64 .i64 Try.underlying35 Try.underlying3 e1 e2 n h1 (by rw [e3]; decide) (by omega) (by rw [e4]; omega)
    have hge := grownCap_ge w n 0 34
    have hcm := grownCap_le_maxLen w n 0 34 (by unfold maxLen; omega)
    obtain ⟨C, hC⟩ : ∃ C, C = grownCap w n 0 34 := ⟨_, rfl⟩
    obtain ⟨cs, hcs⟩ : ∃ cs : Array Value, cs = Builtin.zeroCells (Value.agg #[.int .i64 0, .int .i64 0]).cells n ++ Builtin.zeroCells (Value.agg #[.int .i64 0, .int .i64 0]).cells (C - n) := ⟨_, rfl⟩
    rw [← hC] at hr hge hcm
    have HCZ := Lib.hid (show cs.size = C * 2 by
      rw [hcs]
      simp [size_zeroCells, Value.cells]
      omega)
    rw [← hcs] at hr
    have HR := Lib.hid hr; clear hr hcs hC
    unfold maxLen at hcm
    clear hi e1 e2 e3 e4 h0
    go_enter Try.func52, Try.ntmps52
    go_wp2_with (at_builtin; refine Lib.wpList_append_run _ rfl _ _ _ _ rfl _ _ rfl rfl _ _ (HR.out _) ?_)
    go_ret
    refine ⟨_, _, rfl, ⟨⟨by simp, .inr ⟨w.heap.size, C, cs, rfl, Nat.zero_le _, heap_alloc_new w.drew _, Nat.zero_le _, hcm, HCZ.out, by simp⟩⟩, fun g hg => ?_⟩, (Keep.refl w Nope).drew.alloc _⟩
    have e : g = w.heap.size := by simp [Value.ownBlock] at hg; exact hg.symm
    subst e
    exact ⟨Nat.le_refl _, by simp⟩

/-- The list of slices that Concat is given, one behind the other. -/
structure RowE where
  a : Option Addr
  c : Nat
  l : List EvV
def RowE.v (r : RowE) : Value := .slice r.a r.l.length r.c
def catE (rs : List RowE) : List EvV := rs.flatMap (fun r => r.l)
def LoopC1 (w : World) (rs : List RowE) (g : Nat) (v3 v11 : Value) (wr : World) : Prop :=
  ∃ k : Nat, g + k = rs.length ∧ v11 = .int .i64 k ∧ v3 = .int .i64 (catE (rs.take k)).length ∧ w = wr
def LoopC2 (w : World) (rs : List RowE) (g : Nat) (v6 v27 : Value) (wr : World) : Prop :=
  ∃ (k n : Nat) (a : Option Addr) (c : Nat), g + k = rs.length ∧ v27 = .int .i64 k ∧ v6 = .slice a n c ∧ n = (catE (rs.take k)).length ∧ Own (New w wr) wr 34 2 (.slice a n c) n (flatEv (catE (rs.take k))) ∧ Keep w wr Nope

theorem catE_snoc (rs : List RowE) (k : Nat) (r : RowE) (h : rs[k]? = some r) : catE (rs.take (k + 1)) = catE (rs.take k) ++ r.l := by
  rw [List.take_add_one, h]
  simp [catE]
theorem catE_take_le (rs : List RowE) (k : Nat) : (catE (rs.take k)).length ≤ (catE rs).length := by
  have h : catE rs = catE (rs.take k) ++ catE (rs.drop k) := by
    unfold catE
    rw [← List.flatMap_append, List.take_append_drop]
  rw [h, List.length_append]
  omega

set_option maxHeartbeats 2000000 in
theorem concat_ev (v : Value) (rs : List RowE) (w : World) (S : Nat → Prop) (h : Rd S w v rs.length (rs.map RowE.v)) (hr : ∀ r, r ∈ rs → Rd S w r.v r.l.length (flatEv r.l)) (hl : (catE rs).length ≤ 1000000) :
    Calls Try.prog 40 #[v] w (RetOwn w 34 2 (flatEv (catE rs))) := by
  obtain ⟨a, c, rfl, g1, g2, g3, g4⟩ := id h
  have hlen : rs.length ≤ 9223372036854775807 := by unfold maxLen at g2; omega
  clear g1 g2 g3
  have H := Lib.hid g4; clear g4 h
  have HR := Lib.hid hr; clear hr
  go_enter Try.func40, Try.ntmps40
  go_wp2_with fail
  go_loopg [3, 11] rs.length (fun g v3 v11 wr => LoopC1 w rs g v3 v11 wr)
  case atStart => exact ⟨0, rfl, rfl, rfl, rfl⟩
  case round =>
    obtain ⟨k, hk, rfl, rfl, rfl⟩ := hrel
    have hkl : k ≤ rs.length := by omega
    have HK := Lib.hid hk; clear hk
    by_cases hlt : k < rs.length
    · obtain ⟨r, hr⟩ : ∃ r, rs[k]? = some r := ⟨_, List.getElem?_eq_getElem hlt⟩
      obtain ⟨bo, oo, rfl, _, hc0⟩ := H.out k r.v (by simp [hr])
      have hsn := catE_snoc rs k r hr
      have hle := catE_take_le rs (k + 1)
      have hl1 : (catE (rs.take (k + 1))).length = (catE (rs.take k)).length + r.l.length := by rw [hsn, List.length_append]
      obtain ⟨N, hN⟩ : ∃ N, (catE (rs.take k)).length = N := ⟨_, rfl⟩
      obtain ⟨N1, hN1⟩ : ∃ N1, (catE (rs.take (k + 1))).length = N1 := ⟨_, rfl⟩
      rw [hN1] at hl1 hle
      rw [hN] at hl1 ⊢
      unfold RowE.v at hc0
      have hb1 : N + r.l.length ≤ 1000000 := by omega
      have hb2 : (N : Int) + (r.l.length : Int) = (N1 : Int) := by omega
      have hb3 : (N1 : Int) ≤ 1000000 := by omega
      have HN1 := Lib.hid hN1
      clear hsn hr hN hN1 hl1 hle
      go_wp2_with fail
      go_roundg (rs.length - (k + 1))
      case measure => have := HK.out; omega
      case rel => exact ⟨k + 1, by omega, by go_num, by rw [HN1.out], rfl⟩
    · obtain rfl : k = rs.length := by omega
      rw [List.take_length]
      clear hlt hkl HK
      obtain ⟨N, hN⟩ : ∃ N, (catE rs).length = N := ⟨_, rfl⟩
      rw [hN] at hl ⊢
      have HN := Lib.hid hN; clear hN
      go_wp2_with fail
      refine (grow_ev N hl _).mono ?_
      rintro e w1 ⟨ag, cg, rfl, ho, hk⟩
      have HO := Lib.hid ho; clear ho
      have HP := Lib.hid hk; clear hk
      obtain ⟨w2, hw2⟩ : ∃ w2, w2 = w := ⟨_, rfl⟩
      go_wp2_with fail
      go_loopg [6, 27] rs.length (fun g v6 v27 wr => LoopC2 w rs g v6 v27 wr)
      case atStart => exact ⟨0, 0, ag, cg, rfl, rfl, rfl, rfl, HO.out, HP.out⟩
      case round =>
        obtain ⟨k, n, a6, c6, hk, rfl, rfl, hn, ho, hkp⟩ := hrel
        have hkl : k ≤ rs.length := by omega
        have HK := Lib.hid hk; clear hk
        have HN6 := Lib.hid hn; clear hn
        have HO6 := Lib.hid ho; clear ho
        have HQ := Lib.hid hkp; clear hkp
        by_cases hlt : k < rs.length
        · obtain ⟨r, hr⟩ : ∃ r, rs[k]? = some r := ⟨_, List.getElem?_eq_getElem hlt⟩
          obtain ⟨bo, oo, rfl, _, hc0⟩ := H.out k r.v (by simp [hr])
          have hc1 := HQ.out.cell (p := ⟨bo, oo + k, none⟩) hc0 (fun f => f)
          clear hc0
          have HRR := Lib.hid ((HR.out r (List.mem_of_getElem? hr)).keep HQ.out (fun _ _ f => f))
          have HSN := Lib.hid (catE_snoc rs k r hr)
          have hle := catE_take_le rs (k + 1)
          have hl1 : (catE (rs.take (k + 1))).length = (catE (rs.take k)).length + r.l.length := by rw [HSN.out, List.length_append]
          have hb1 : n + r.l.length ≤ 1000000 := by have := HN6.out; have := HN.out; omega
          unfold RowE.v at hc1
          have hs := HQ.out.size
          clear hr hle hl1
          go_wp2_with (at_builtin; refine wpList_app (P := Try.prog) slEv rfl _ _ rfl (S := New w wr) (S2 := S) (n := n) (xs := flatEv (catE (rs.take k))) (m := r.l.length) (news := flatEv r.l) rfl rfl ?hown ?hx ?hl ?h1 ?h2 ?h3 ?_)
          case hown => exact HO6.out
          case hx => exact HRR.out
          case hl => exact flatEv_len _
          case h1 => exact flatEv_one _
          case h2 => omega
          case h3 => unfold maxLen; omega
          rintro a' k' c' w5 ⟨ho5, hnum, hk5, _⟩
          have hs5 := hk5.size
          have HO5 := Lib.hid (ho5.mono (T := New w w5) (fun x hx => hx.elim (fun hx => ⟨hx.1, by have := hx.2; omega⟩) (fun hx => ⟨by have := hx.1; omega, hx.2⟩)))
          have HP5 := Lib.hid (HQ.out.trans hk5 (fun x hx => .inr hx.1))
          have HNum := Lib.hid hnum
          clear ho5 hk5 hnum
          go_wp2_with fail
          go_roundg (rs.length - (k + 1))
          case measure => have := HK.out; omega
          case rel =>
            refine ⟨k + 1, k', a', c', by omega, by go_num, rfl, ?_, ?_, HP5.out⟩
            · rw [HNum.out, HSN.out, List.length_append, HN6.out]
            · rw [HSN.out, flatEv_app]; exact HO5.out
        · obtain rfl : k = rs.length := by omega
          have HT := Lib.hid (show catE (rs.take rs.length) = catE rs by rw [List.take_length])
          go_wp2_with fail
          go_ret
          exact ⟨_, _, _, rfl, by have := HO6.out; rw [HT.out] at this; exact this, HQ.out⟩
end Go.Proofs.Ytcmbbkaioopkhaa
