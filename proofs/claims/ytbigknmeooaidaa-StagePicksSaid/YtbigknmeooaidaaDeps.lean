/-
  The package deps, function by function.
-/
import Derived.Test.YtbigknmeooaidaaBits
import Derived.Test.YtbigknmeooaidaaOrd
namespace Go.Proofs.Ytbigknmeooaidaa
open Go Go.RowKit
set_option linter.unusedVariables false
set_option linter.unusedSimpArgs false

/-- It answers v, and nothing old has turned. -/
def Ret (w : World) (v : Value) (en : Ending) (w' : World) : Prop := en = .returned v ∧ Keep w w' Nope

/-- A slice's words. -/
structure SlV where
  a : Option Addr
  n : Nat
  c : Nat
def SlV.v (x : SlV) : Value := .slice x.a x.n x.c
/-- A system: its cells, and what it waits for. -/
structure SysV where
  r : SlV
  w : SlV
  rr : SlV
  rw' : SlV
  al : Bool
  pl : SlV
  cd : SlV
  af : SlV
  aft : List Int
def SysV.cells (x : SysV) : List Value := [x.r.v, x.w.v, x.rr.v, x.rw'.v, .bool x.al, x.pl.v, x.cd.v, x.af.v]
def aftsOf (l : List SysV) : List (List Int) := l.map SysV.aft
/-- Systems that are only read. -/
structure RdSys (S : Nat → Prop) (w : World) (v : Value) (l : List SysV) : Prop where
  rd : Rd S w v l.length (l.flatMap SysV.cells)
  af : ∀ x, x ∈ l → x.af.n = x.aft.length ∧ Rd S w x.af.v x.aft.length (ints x.aft)
theorem RdSys.keep {S T : Nat → Prop} {w w' : World} {v : Value} {l : List SysV} (h : RdSys S w v l) (hk : Keep w w' T) (hd : ∀ i, S i → T i → False) : RdSys S w' v l :=
  ⟨h.rd.keep hk hd, fun x hx => ⟨(h.af x hx).1, (h.af x hx).2.keep hk hd⟩⟩
theorem RdSys.keep0 {S : Nat → Prop} {w w' : World} {v : Value} {l : List SysV} (h : RdSys S w v l) (hk : Keep w w' Nope) : RdSys S w' v l := h.keep hk (fun _ _ f => f)
theorem aftOf_get {l : List SysV} {k : Nat} {x : SysV} (h : l[k]? = some x) : aftOf (aftsOf l) k = x.aft := by
  unfold aftOf aftsOf
  rw [List.getD_eq_getElem?_getD, List.getElem?_map, h]
  rfl
theorem aftsOf_len (l : List SysV) : (aftsOf l).length = l.length := by simp [aftsOf]

set_option maxHeartbeats 400000 in
theorem check_1 (x : Int) (i n : Nat) (a : Option Addr) (c bl bi : Nat) (w : World) (h1 : w.cell? ⟨bl, 0, none⟩ = some (.slice a n c)) (h2 : w.cell? ⟨bi, 0, none⟩ = some (.int .i64 i)) :
    Calls Try.prog 80 #[.int .i64 x, .pointer (some ⟨bl, 0, none⟩), .pointer (some ⟨bi, 0, none⟩)] w (fun e w' => e = .returned (.bool (badAt n i x)) ∧ w = w') := by
  by_cases hx : x < 0
  · have e : badAt n i x = true := by simp [badAt, hx]
    rw [e]
    clear e
    go_enter Try.func80, Try.ntmps80
    go_wp2_with fail
    go_ret
    exact ⟨rfl, rfl⟩
  · by_cases hx2 : (n : Int) ≤ x
    · have e : badAt n i x = true := by simp [badAt, hx2]
      rw [e]
      clear e
      go_enter Try.func80, Try.ntmps80
      go_wp2_with fail
      go_ret
      exact ⟨rfl, rfl⟩
    · have e : badAt n i x = (x == (i : Int)) := by simp [badAt, hx, hx2]
      rw [e]
      clear e
      go_enter Try.func80, Try.ntmps80
      go_wp2_with fail
      go_ret
      exact ⟨rfl, rfl⟩

/-- A number, at least 0 just if p holds of one of the row. -/
def RetIx (w : World) (b : Bool) (en : Ending) (w' : World) : Prop := ∃ i : Int, en = .returned (.int .i64 i) ∧ ((0 ≤ i) = (b = true)) ∧ w = w'
def LoopIx (w : World) (l : List Int) (p : Int → Bool) (g : Nat) (v8 : Value) (wr : World) : Prop :=
  ∃ k : Nat, g + k = l.length ∧ v8 = .int .i64 k ∧ (∀ j x, j < k → l[j]? = some x → p x = false) ∧ w = wr

set_option maxHeartbeats 1000000 in
theorem index_int (v : Value) (l : List Int) (w : World) (S : Nat → Prop) (i n : Nat) (la : Option Addr) (lc bl bi : Nat) (h : Rd S w v l.length (ints l)) (h1 : w.cell? ⟨bl, 0, none⟩ = some (.slice la n lc)) (h2 : w.cell? ⟨bi, 0, none⟩ = some (.int .i64 i)) :
    Calls Try.prog 94 #[v, .func (.func 80) #[] #[.pointer (some ⟨bl, 0, none⟩), .pointer (some ⟨bi, 0, none⟩)]] w (RetIx w (l.any (badAt n i))) := by
  obtain ⟨a, c, rfl, g1, g2, g3, g4⟩ := id h
  have hlen : l.length ≤ 9223372036854775807 := by unfold maxLen at g2; omega
  clear g1 g2 g3 g4
  have H := Lib.hid h; clear h
  have HP := Lib.hid (fun x => check_1 x i n la lc bl bi w h1 h2); clear h1 h2
  go_enter Try.func94, Try.ntmps94
  go_wp2_with fail
  go_loopg [8] l.length (fun g v8 wr => LoopIx w l (badAt n i) g v8 wr)
  case atStart => exact ⟨0, rfl, rfl, fun j x h => by omega, rfl⟩
  case round =>
    obtain ⟨k, hk, rfl, hall, rfl⟩ := hrel
    have hkl : k ≤ l.length := by omega
    have HK := Lib.hid hk; clear hk
    have HA := Lib.hid hall; clear hall
    by_cases hlt : k < l.length
    · obtain ⟨x, hx⟩ : ∃ x, l[k]? = some x := ⟨_, List.getElem?_eq_getElem hlt⟩
      obtain ⟨bo, oo, ⟨c', hv⟩, _, hc0⟩ := H.out.int hx
      injection hv with hv1 hv2 hv3
      subst hv1; subst hv3
      have HX := Lib.hid hx; clear hx
      have HC := Lib.hid (HP.out x)
      obtain ⟨b, hb⟩ : ∃ b, badAt n i x = b := ⟨_, rfl⟩
      rw [hb] at HC
      have HB := Lib.hid hb; clear hb
      cases b
      · go_wp2_with (go_at_call 80; refine HC.out.mono ?_; rintro e w' ⟨rfl, rfl⟩)
        go_roundg (l.length - (k + 1))
        case measure => have := HK.out; omega
        case rel =>
          refine ⟨k + 1, by omega, by go_num, fun j o' hj ho' => ?_, rfl⟩
          by_cases e : j = k
          · subst e
            rw [HX.out] at ho'
            cases ho'
            exact HB.out
          · exact HA.out j o' (by omega) ho'
      · go_wp2_with (go_at_call 80; refine HC.out.mono ?_; rintro e w' ⟨rfl, rfl⟩)
        go_ret
        refine ⟨k, rfl, ?_, rfl⟩
        have : l.any (badAt n i) = true := List.any_eq_true.2 ⟨_, List.mem_of_getElem? HX.out, HB.out⟩
        rw [this]
        simp
    · go_wp2_with fail
      go_ret
      refine ⟨-1, rfl, ?_, rfl⟩
      have : l.any (badAt n i) = false := by
        rw [List.any_eq_false]
        intro o ho
        obtain ⟨j, hj, rfl⟩ := List.getElem_of_mem ho
        simp [HA.out j _ (by omega) (List.getElem?_eq_getElem hj)]
      rw [this]
      simp

set_option maxHeartbeats 400000 in
theorem contains_int (v : Value) (l : List Int) (w : World) (S : Nat → Prop) (i n : Nat) (la : Option Addr) (lc bl bi : Nat) (h : Rd S w v l.length (ints l)) (h1 : w.cell? ⟨bl, 0, none⟩ = some (.slice la n lc)) (h2 : w.cell? ⟨bi, 0, none⟩ = some (.int .i64 i)) :
    Calls Try.prog 61 #[v, .func (.func 80) #[] #[.pointer (some ⟨bl, 0, none⟩), .pointer (some ⟨bi, 0, none⟩)]] w (fun e w' => e = .returned (.bool (l.any (badAt n i))) ∧ w = w') := by
  have HI := Lib.hid (index_int v l w S i n la lc bl bi h h1 h2); clear h h1 h2
  obtain ⟨b, hb⟩ : ∃ b, l.any (badAt n i) = b := ⟨_, rfl⟩
  rw [hb] at HI ⊢
  clear hb
  go_enter Try.func61, Try.ntmps61
  go_wp2_with fail
  refine HI.out.mono ?_
  rintro e w1 ⟨i, rfl, hi, rfl⟩
  cases b
  · have hi' : i < 0 := by
      simp at hi
      exact hi
    have hd : decide (0 ≤ i) = false := decide_eq_false (by omega)
    clear hi
    go_wp2_with fail
    go_ret
    exact ⟨rfl, rfl⟩
  · have hi' : 0 ≤ i := by simpa using hi
    clear hi
    go_wp2_with fail
    go_ret
    exact ⟨rfl, rfl⟩

/-- The row of numbers, as ints. -/
def nats (l : List Nat) : List Int := l.map Int.ofNat
theorem nats_len (l : List Nat) : (nats l).length = l.length := by simp [nats]
theorem nats_app (a b : List Nat) : nats (a ++ b) = nats a ++ nats b := by simp [nats]

theorem mem_nats {l : List Nat} {x : Int} : x ∈ nats l ↔ ∃ k, k ∈ l ∧ (k : Int) = x := by simp [nats]
/-- Whether one may come next, in words of sixty-four. -/
theorem has_nats {done : List Nat} {i : Nat} (hi : i < 64) : hasW (allW (nats done)) i = done.contains i := by
  unfold hasW
  rw [bit_all]
  rw [Bool.eq_iff_iff]
  simp [mem_nats]
  constructor
  · rintro ⟨_, ⟨a, ha, e⟩, _⟩
    have : a = i := by omega
    exact this ▸ ha
  · intro h
    exact ⟨by omega, ⟨i, h, rfl⟩, by omega⟩
theorem not_nats {done : List Nat} {l : List Int} (hl : ∀ x, x ∈ l → 0 ≤ x ∧ x < 64) : (bits .andNot .u64 (allW l : Nat) (allW (nats done) : Nat) == 0) = l.all (fun x => done.any (fun k => (k : Int) == x)) := by
  rw [Bool.eq_iff_iff, beq_iff_eq, bits_andnot _ _ (allW_lt _) (allW_lt _)]
  simp only [decide_eq_true_iff, bit_all, List.all_eq_true, List.any_eq_true, beq_iff_eq]
  constructor
  · intro h x hx
    obtain ⟨h0, h1⟩ := hl x hx
    have := (h x.toNat ⟨by rw [Int.toNat_of_nonneg h0]; exact hx, by omega⟩).1
    rw [Int.toNat_of_nonneg h0] at this
    exact mem_nats.1 this
  · intro h k hk
    exact ⟨mem_nats.2 (h _ hk.1), hk.2⟩

/-- The first that may come next among the first k. -/
def nextTo (A : List (List Int)) (done : List Nat) (k : Nat) : Option Nat := (List.range k).find? (freeAt A done)
def nextI (o : Option Nat) : Int := match o with | none => -1 | some j => j
theorem nextTo_some {A : List (List Int)} {done : List Nat} {k j : Nat} (h : nextTo A done k = some j) : nextTo A done (k + 1) = some j := by
  unfold nextTo at h ⊢
  rw [List.range_succ, List.find?_append, h]
  rfl
theorem nextTo_none {A : List (List Int)} {done : List Nat} {k : Nat} (h : nextTo A done k = none) : nextTo A done (k + 1) = if freeAt A done k = true then some k else none := by
  unfold nextTo at h ⊢
  rw [List.range_succ, List.find?_append, h]
  by_cases hf : freeAt A done k = true <;> simp [hf]

theorem slInt : SlTy Try.prog 23 3 1 8 := SlTy.mk' (.int .i64 0) Try.underlying23 (by kernel_rfl) rfl (by decide)

/-- A slice of the call's own, new behind w, is handed back; nothing old has turned. -/
def RetOwn (w : World) (e : TypeId) (size : Nat) (xs : List Value) (en : Ending) (w' : World) : Prop :=
  ∃ a n c, en = .returned (.slice a n c) ∧ Own (New w w') w' e size (.slice a n c) n xs ∧ Keep w w' Nope

def LoopOrd (w : World) (A : List (List Int)) (g : Nat) (v3 v4 : Value) (wr : World) : Prop :=
  ∃ (done : List Nat) (a : Option Addr) (n c : Nat), g + n = A.length ∧ n = done.length ∧ v3 = .slice a n c ∧ v4 = .int .u64 (allW (nats done) : Nat) ∧ Part A done ∧ Own (New w wr) wr 3 1 (.slice a n c) n (ints (nats done)) ∧ Keep w wr Nope
def LoopNext (w0 : World) (A : List (List Int)) (done : List Nat) (g : Nat) (v5 v10 : Value) (wr : World) : Prop :=
  ∃ k : Nat, g + k = A.length ∧ v10 = .int .i64 k ∧ v5 = .int .i64 (nextI (nextTo A done k)) ∧ Keep w0 wr Nope

set_option maxRecDepth 100000 in
set_option maxHeartbeats 2000000 in
theorem deps_order (v : Value) (l : List SysV) (w : World) (S : Nat → Prop) (h : RdSys S w v l) (hok : badSys (aftsOf l) = false) (hl : l.length ≤ 64) :
    Calls Try.prog 58 #[v] w (RetOwn w 3 1 (ints (nats (ord (aftsOf l))))) := by
  obtain ⟨a, c, rfl, g1, g2, g3, g4⟩ := id h.rd
  clear g1 g2 g3 g4
  obtain ⟨A, hA⟩ : ∃ A, A = aftsOf l := ⟨_, rfl⟩
  have hAl : A.length = l.length := by rw [hA]; exact aftsOf_len l
  rw [← hA] at hok ⊢
  have H := Lib.hid h; clear h
  have HOK := Lib.hid hok; clear hok
  have HAL := Lib.hid hAl; clear hAl
  have HA := Lib.hid hA; clear hA
  go_enter Try.func58, Try.ntmps58
  go_wp2_with fail
  go_loopg [3, 4] A.length (fun g v3 v4 wr => LoopOrd w A g v3 v4 wr)
  case atStart => exact ⟨[], none, 0, 0, rfl, rfl, rfl, rfl, Part.start A, Own.nil _ _ _ _, Keep.refl _ _⟩
  case round =>
    obtain ⟨done, a3, n, c3, hg, hn, rfl, rfl, hpart, ho, hkeep⟩ := hrel
    have HG := Lib.hid hg; clear hg
    have HN := Lib.hid hn; clear hn
    have HPA := Lib.hid hpart; clear hpart
    have HO := Lib.hid ho; clear ho
    have HP := Lib.hid hkeep; clear hkeep
    obtain ⟨w2, hw2⟩ : ∃ w2, w2 = wr := ⟨_, rfl⟩
    subst hw2
    go_wp2_with fail
    go_loopg [5, 10] l.length (fun g v5 v10 wr => LoopNext w2 A done g v5 v10 wr)
    case atStart => exact ⟨0, HAL.out.symm, rfl, rfl, Keep.refl _ _⟩
    case round =>
      obtain ⟨k, hgk, rfl, rfl, hkp⟩ := hrel
      have hkl : k ≤ l.length := by have := HAL.out; omega
      have HGK := Lib.hid hgk; clear hgk
      have HQ := Lib.hid hkp; clear hkp
      have HW := Lib.hid (HP.out.trans HQ.out (fun _ f => f.elim))
      by_cases hlt : k < l.length
      · obtain ⟨x, hx⟩ : ∃ x, l[k]? = some x := ⟨_, List.getElem?_eq_getElem hlt⟩
        obtain ⟨bo, oo, rfl, _, hco⟩ := (H.out.keep0 HW.out).rd.elem (cells := SysV.cells) (size := 8) (fun _ => rfl) (by decide) hx
        obtain ⟨hxn, hxr⟩ := (H.out.keep0 HW.out).af x (List.mem_of_getElem? hx)
        have hxl := aftOf_get hx
        rw [← HA.out] at hxl
        have HXV : Hid (∀ y, y ∈ x.aft → 0 ≤ y ∧ y < 64) := Lib.hid (fun y hy => by
          have := okA HOK.out k (by rw [HAL.out]; exact hlt) y (by rw [hxl]; exact hy)
          have := HAL.out
          omega)
        clear hx
        have hc0 := hco 0 (by decide)
        have hc1 := hco 1 (by decide)
        have hc2 := hco 2 (by decide)
        have hc3 := hco 3 (by decide)
        have hc4 := hco 4 (by decide)
        have hc5 := hco 5 (by decide)
        have hc6 := hco 6 (by decide)
        have hc7 := hco 7 (by decide)
        simp [SysV.cells, SlV.v] at hc0 hc1 hc2 hc3 hc4 hc5 hc6 hc7
        clear hco
        unfold SlV.v at hxr
        rw [hxn] at hc7 hxr
        have HXR := Lib.hid hxr; clear hxr hxn
        have HXL := Lib.hid hxl; clear hxl
        have HHAS := Lib.hid (has_nats (done := done) (i := k) (by omega))
        have HNOT := Lib.hid (not_nats (done := done) HXV.out)
        have HFR := Lib.hid (show freeAt A done k = (!done.contains k && x.aft.all (fun y => done.any (fun j => (j : Int) == y))) by unfold freeAt; rw [HXL.out])
        cases hnx : nextTo A done k with
        | some j =>
          have HNX := Lib.hid (nextTo_some hnx); clear hnx
          simp only [nextI]
          go_wp2_with fail
          go_roundg (A.length - (k + 1))
          case measure => have := HGK.out; have := HAL.out; omega
          case rel => exact ⟨k + 1, by have := HGK.out; have := HAL.out; omega, by go_num, by rw [HNX.out]; rfl, HQ.out.alloc _⟩
        | none =>
          have HNX := Lib.hid (nextTo_none hnx); clear hnx
          simp only [nextI]
          obtain ⟨hb, hhb⟩ : ∃ hb, done.contains k = hb := ⟨_, rfl⟩
          rw [hhb] at HHAS HFR
          clear hhb
          go_wp2_with fail
          refine (bits_has _ (allW_lt _) _ _).mono ?_
          rw [HHAS.out]
          rintro e wh ⟨rfl, rfl⟩
          cases hb
          · obtain ⟨ab, hab⟩ : ∃ ab, (x.aft.all (fun y => done.any (fun j => (j : Int) == y))) = ab := ⟨_, rfl⟩
            rw [hab] at HNOT HFR
            clear hab
            go_wp2_with fail
            refine (bits_of _ x.aft _ S (HXR.out.keep ?kw (fun _ _ f => f))).mono ?_
            case kw => (repeat (first | exact Keep.refl _ _ | apply Keep.drew | apply Keep.drewN | apply Keep.alloc))
            rintro e wh ⟨rfl, rfl⟩
            have hnot := HNOT.out
            cases ab
            · go_wp2_with fail
              go_roundg (A.length - (k + 1))
              case measure => have := HGK.out; have := HAL.out; omega
              case rel => exact ⟨k + 1, by have := HGK.out; have := HAL.out; omega, by go_num, by rw [HNX.out, HFR.out]; rfl, HQ.out.alloc _⟩
            · go_wp2_with fail
              go_roundg (A.length - (k + 1))
              case measure => have := HGK.out; have := HAL.out; omega
              case rel => exact ⟨k + 1, by have := HGK.out; have := HAL.out; omega, by go_num, by rw [HNX.out, HFR.out]; rfl, HQ.out.alloc _⟩
          · go_wp2_with fail
            go_roundg (A.length - (k + 1))
            case measure => have := HGK.out; have := HAL.out; omega
            case rel => exact ⟨k + 1, by have := HGK.out; have := HAL.out; omega, by go_num, by rw [HNX.out, HFR.out]; rfl, HQ.out.alloc _⟩
      · obtain rfl : k = l.length := by omega
        have HNL := Lib.hid (show nextTo A done l.length = nextOf A done by rw [← HAL.out]; rfl)
        rw [HNL.out]
        clear HNL
        cases hnx : nextOf A done with
        | none =>
          have HE := Lib.hid (HPA.out.stop hnx); clear hnx
          simp only [nextI]
          go_wp2_with fail
          go_ret
          rw [HE.out]
          exact ⟨_, _, _, rfl, HO.out.keep HQ.out (fun _ _ f => f) |>.mono (fun i hi => ⟨hi.1, Nat.lt_of_lt_of_le hi.2 HQ.out.size⟩), HW.out⟩
        | some i =>
          obtain ⟨hstep, hlt2⟩ := HPA.out.step hnx
          have HST := Lib.hid hstep; clear hstep hnx
          simp only [nextI]
          have hnn : n + 1 ≤ 64 := by have := HN.out; have := HAL.out; omega
          have HAW := Lib.hid (show allW (nats done) ||| allW [(i : Int)] = allW (nats (done ++ [i])) by rw [nats_app, show nats [i] = [(i : Int)] from rfl, allW_snoc]; simp [allW])
          go_wp2_with fail
          refine (bits_with _ (allW_lt _) _ [(i : Int)] _ (fun x => x = wr.heap.size) ?rd1).mono ?_
          case rd1 => exact (Own.lit (S := fun x => x = wr.heap.size) wr 3 1 1 #[.int .i64 i] (by decide) rfl rfl).rd
          rw [HAW.out]
          rintro e wh ⟨rfl, rfl⟩
          have HO1 := Lib.hid ((HO.out.keep HQ.out (fun _ _ f => f)).alloc (.cells #[.int .i64 (i : Int)] 3))
          go_wp2_with (at_builtin; refine wpList_app (P := Try.prog) slInt rfl _ _ rfl (S := New w w2) (S2 := fun x => wr.heap.size + 1 ≤ x) (n := n) (xs := ints (nats done)) (m := 1) (news := ints (nats [i])) rfl rfl ?hown ?hx ?hl ?h1 ?h2 ?h3 ?_)
          case hown => exact HO1.out.alloc _
          case hx => have hx := (Own.lit (S := fun x => wr.heap.size + 1 ≤ x) (wr.alloc (.cells #[.int .i64 (i : Int)] 3)) 3 1 1 #[.int .i64 i] (by decide) rfl (by simp)).rd; simp only [World.size_alloc] at hx; exact hx
          case hl => rfl
          case h1 => exact ints_one _
          case h2 => omega
          case h3 => unfold maxLen; omega
          rintro a' k' c' w5 ⟨ho5, hnum, hk5, _⟩
          have hs5 := hk5.size
          simp only [World.size_alloc] at hs5
          have hsz1 := HP.out.size
          have hsz2 := HW.out.size
          have hsz3 := HQ.out.size
          have HO5 := Lib.hid (ho5.mono (T := New w w5) (fun x hx => hx.elim (fun hx => ⟨hx.1, by have := hx.2; omega⟩) (fun hx => ⟨by have := hx.1; simp at this; omega, hx.2⟩)))
          have HP5 := Lib.hid (((HW.out.alloc (.cells #[.int .i64 (i : Int)] 3)).alloc (.cells #[.int .i64 (i : Int)] 3)).trans hk5 (fun x hx => .inr hx.1))
          have HNum := Lib.hid hnum
          clear ho5 hk5 hnum HO1
          go_wp2_with fail
          go_roundg (A.length - (n + 1))
          case measure => have := HG.out; have := HN.out; omega
          case rel =>
            refine ⟨done ++ [i], a', k', c', ?_, ?_, rfl, rfl, HST.out, ?_, HP5.out⟩
            · have := HNum.out; have := HN.out; have := HG.out; omega
            · rw [HNum.out, HN.out]; simp
            · rw [nats_app, ints_app]; exact HO5.out
end Go.Proofs.Ytbigknmeooaidaa
