/-
  The law's own systems with what they use: the walk.
-/
import Derived.Test.YtbigknmeooaidaaSys23
namespace Go.Proofs.Ytbigknmeooaidaa
open Go Go.RowKit
set_option linter.unusedVariables false
set_option linter.unusedSimpArgs false

def tameX (tame : Bool) (n : Nat) (l : List SysX) : Prop := ∀ (p : Nat) (x : SysX), l[p]? = some x → x.af.l.length ≤ 10 ∧ (tame = true → ∀ y, y ∈ x.af.l → 0 ≤ y ∧ y < n ∧ y ≠ p)
def shortX (B : Nat) (l : List SysX) : Prop := ∀ x, x ∈ l → ∀ f, (x.row f).l.length ≤ B
def RetSys23 (w : World) (n : Nat) (tame : Bool) (en : Ending) (w' : World) : Prop :=
  ∃ (a : Option Addr) (c : Nat) (l : List SysX), en = .returned (.slice a l.length c) ∧ St w w' (MadeY (.slice a l.length c) l) ∧ l.length = n ∧ tameX tame n l ∧ shortX 1000 l
def LoopY1 (w : World) (a : Option Addr) (n c N : Nat) (tame : Bool) (g : Nat) (v8 : Value) (wr : World) : Prop :=
  ∃ (i : Nat) (l : List SysX), g + i = N ∧ i ≤ n ∧ v8 = .int .i64 i ∧ l.length = n ∧ tameX tame n l ∧ shortX (5 * i + i) l ∧ St w wr (MadeY (.slice a n c) l)
def LoopY2 (w : World) (a : Option Addr) (n c i : Nat) (tame : Bool) (g : Nat) (v10 : Value) (wr : World) : Prop :=
  ∃ (k : Nat) (l : List SysX), g + k = 5 ∧ v10 = .int .i64 k ∧ l.length = n ∧ tameX tame n l ∧ shortX (5 * i + i + k) l ∧ St w wr (MadeY (.slice a n c) l)
theorem tame_set {tame : Bool} {n i : Nat} {l : List SysX} {x x' : SysX} (h : tameX tame n l) (hx : l[i]? = some x) (he : x'.af = x.af) : tameX tame n (l.set i x') := by
  intro p y hy
  by_cases e : i = p
  · subst e
    rw [List.getElem?_set_self (List.getElem?_eq_some_iff.1 hx).1] at hy
    injection hy with hy
    subst hy
    rw [he]
    exact h i x hx
  · rw [List.getElem?_set_ne e] at hy
    exact h p y hy
theorem short_set {B B2 i : Nat} {l : List SysX} {x' : SysX} (h : shortX B l) (hB : B ≤ B2) (hx : ∀ f, (x'.row f).l.length ≤ B2) : shortX B2 (l.set i x') := by
  intro y hy f
  rcases List.mem_or_eq_of_mem_set hy with hy | hy
  · exact Nat.le_trans (h y hy f) hB
  · subst hy; exact hx f
theorem short_mono {B B2 : Nat} {l : List SysX} (h : shortX B l) (hB : B ≤ B2) : shortX B2 l := fun y hy f => Nat.le_trans (h y hy f) hB
theorem row_setRow {x : SysX} {f : Nat} {r : RowV} {B : Nat} (hx : ∀ f, (x.row f).l.length ≤ B) (hr : r.l.length ≤ B + 1) : ∀ f2, ((x.setRow f r).row f2).l.length ≤ B + 1 := by
  intro f2
  have h0 := hx 0
  have h1 := hx 1
  have h2 := hx 2
  have h3 := hx 3
  simp only [SysX.row] at h0 h1 h2 h3
  unfold SysX.setRow SysX.row
  split <;> split <;> simp only <;> omega

theorem made_new {w wr : World} {v : Value} {l : List SysX} (h : St w wr (MadeY v l)) (i : Nat) {x : SysX} (hx : l[i]? = some x) (y : Int) :
    St w (wr.alloc (.cells #[.int .i64 y] 3)) ((usePs x).set 3 (rowI ⟨some ⟨wr.heap.size, 0, none⟩, 1, [y]⟩) ++ (MadeY v l).set (i + 1) empA) := by
  have h1 := (made_split h i hx).lit 3 1 1 #[.int .i64 y] (by decide) rfl
  have hlen : (usePs x ++ (MadeY v l).set (i + 1) empA).length = l.length + 6 := by simp [usePs, MadeY]
  refine h1.pick (fun j => if j = 3 then l.length + 6 else j) (fun a b ha hb e => ?_) (fun j A hj => ?_)
  · have ha' : a < l.length + 6 := by simpa [usePs, MadeY, Nat.add_comm, Nat.add_left_comm] using ha
    have hb' : b < l.length + 6 := by simpa [usePs, MadeY, Nat.add_comm, Nat.add_left_comm] using hb
    (try simp only at e)
    split at e <;> split at e <;> omega
  · by_cases e : j = 3
    · subst e
      rw [List.getElem?_append_left (by simp [usePs]), List.getElem?_set_self (by simp [usePs])] at hj
      injection hj with hj
      subst hj
      rw [if_pos rfl, List.getElem?_append_right (by omega), hlen, Nat.sub_self]
      rfl
    · rw [if_neg e]
      have hjl := (List.getElem?_eq_some_iff.1 hj).1
      rw [List.length_append, List.length_set, ← List.length_append] at hjl
      rw [List.getElem?_append_left hjl]
      by_cases c : j < (usePs x).length
      · rw [List.getElem?_append_left (by rw [List.length_set]; exact c), List.getElem?_set_ne (fun e' => e e'.symm)] at hj
        rw [List.getElem?_append_left c]
        exact hj
      · rw [List.getElem?_append_right (by rw [List.length_set]; omega), List.length_set] at hj
        rw [List.getElem?_append_right (by omega)]
        exact hj

set_option maxRecDepth 100000 in
set_option maxHeartbeats 4000000 in
theorem systems23 (v v2 : Value) (rs : List RowV) (uses : List Int) (tame : Bool) (w : World) (S S2 : Nat → Prop) (h : RdRows S w v rs) (hS : ∀ i, S i → i < w.heap.size) (h2 : Rd S2 w v2 uses.length (ints uses)) :
    Calls Try.prog 10 #[v, v2, .bool tame] w (RetSys23 w (min rs.length 66) tame) := by
  have HM := Lib.hid (systems_made v rs tame w S h hS)
  obtain ⟨va, vc, rfl, g1, g2, g3, g4⟩ := id h.rd
  clear g1 g2 g3 g4
  obtain ⟨ua, uc, rfl, g1, g2, g3, g4⟩ := id h2
  have hul : uses.length ≤ 9223372036854775807 := by unfold maxLen at g2; omega
  clear g1 g2 g3 g4
  have HU := Lib.hid h2
  obtain ⟨n, hn⟩ : ∃ n, min rs.length 66 = n := ⟨_, rfl⟩
  have hn66 : n ≤ 66 := by omega
  rw [hn] at HM ⊢
  clear h h2 hn
  go_enter Try.func10, Try.ntmps10
  go_wp2_with fail
  refine HM.out.mono ?_
  rintro e w1 ⟨a, c, l0, rfl, hst, hl0, hshp, htm⟩
  have h1 := made_up hst hshp
  rw [hl0] at h1 ⊢
  have H1 := Lib.hid h1
  have HT0 : Hid (tameX tame n (l0.map ofV)) := Lib.hid (fun p x hx => by
    rw [List.getElem?_map] at hx
    obtain ⟨z, hz, rfl⟩ := Option.map_eq_some_iff.1 hx
    exact ⟨(hshp z (List.mem_of_getElem? hz)).2.2, fun ht y hy => htm ht p z hz y hy⟩)
  have HSH0 : Hid (shortX 0 (l0.map ofV)) := Lib.hid (fun x hx f => by
    obtain ⟨z, hz, rfl⟩ := List.mem_map.1 hx
    unfold SysX.row ofV nilR
    split <;> exact Nat.le_refl _)
  have HL0 := Lib.hid (show (l0.map ofV).length = n by rw [List.length_map, hl0])
  clear hst hl0 hshp htm h1 HM
  go_wp2_with fail
  go_loopg [8] n (fun g v8 wr => LoopY1 w a n c n tame g v8 wr)
  case atStart => exact ⟨0, l0.map ofV, by omega, by omega, rfl, HL0.out, HT0.out, HSH0.out, H1.out⟩
  case round =>
    obtain ⟨i, l, hi, hin, rfl, hl, htm, hsh, hst⟩ := hrel
    clear H1 HT0 HSH0 HL0
    have HI := Lib.hid hi; clear hi
    have HL := Lib.hid hl; clear hl
    have HT := Lib.hid htm; clear htm
    have HSH := Lib.hid hsh; clear hsh
    have H2 := Lib.hid hst; clear hst
    by_cases hlt : i < n ∧ i < uses.length
    · obtain ⟨hlt, hlu⟩ := hlt
      have hia : (i : Int) < n := by omega
      have hib : (i : Int) < uses.length := by omega
      obtain ⟨u, hu⟩ : ∃ u, uses[i]? = some u := ⟨_, List.getElem?_eq_getElem hlu⟩
      obtain ⟨bu, ou, ⟨cu, hv⟩, _, hcu⟩ := (HU.out.keep (Keep.ofSt H2.out) (fun _ _ f => f)).int hu
      injection hv with hv1 hv2 hv3
      subst hv1; subst hv3; clear hv2 hu
      obtain ⟨X, hX, hXl⟩ : ∃ X : Nat, bits .and .i64 u 16777215 = (X : Int) ∧ X < 16777216 := by
        rw [and_mask u 24 16777215 (by decide) rfl]
        exact ⟨(u % 16777216).toNat, by omega, by omega⟩
      go_wp2_with fail
      clear hX hcu
      go_loopg [10] 5 (fun g v10 wz => LoopY2 w a n c i tame g v10 wz)
      case atStart => exact ⟨0, l, rfl, rfl, HL.out, HT.out, HSH.out, H2.out⟩
      case round =>
        obtain ⟨k, l, hg, rfl, hl, htm, hsh, hst⟩ := hrel
        clear H2
        have hk5 : k ≤ 5 := by omega
        have HG := Lib.hid hg; clear hg
        have HL := Lib.hid hl; clear hl
        have HT := Lib.hid htm; clear htm
        have HSH := Lib.hid hsh; clear hsh
        have H3 := Lib.hid hst; clear hst
        by_cases hk : k < 5
        · have hkI : (k : Int) < 5 := by omega
          have hkd : decide ((k : Int) < 5) = true := decide_eq_true hkI
          obtain ⟨x, hx⟩ : ∃ x, l[i]? = some x := ⟨_, List.getElem?_eq_getElem (by rw [HL.out]; exact hlt)⟩
          obtain ⟨gs, rfl, hgl, hgf, hgc, _⟩ := H3.out.store 0 (n := n) (a := a) (c := c) (e := 35) (size := 8) (xs := l.flatMap SysX.cells) (by unfold MadeY; rw [HL.out]; rfl) (by omega)
          have fg := fun j (hj : j < 8) => flat_get SysX.cells 8 (fun _ => rfl) l i j _ hx hj
          have y0 := hgc (i * 8 + 0) (by omega)
          have y1 := hgc (i * 8 + 1) (by omega)
          have y2 := hgc (i * 8 + 2) (by omega)
          rw [fg 0 (by decide)] at y0
          rw [fg 1 (by decide)] at y1
          rw [fg 2 (by decide)] at y2
          simp only [SysX.cells, List.getElem?_cons_zero, List.getElem?_cons_succ, Nat.add_zero] at y0 y1 y2
          have HX := Lib.hid hx
          have hrx := HSH.out x (List.mem_of_getElem? hx)
          have HRX := Lib.hid hrx
          have hcap : n ≤ c ∧ c ≤ maxLen := by obtain ⟨_, ho, _⟩ := H3.out.rd 0 (n := n) (v := .slice (some ⟨gs, 0, none⟩) n c) (e := 35) (size := 8) (xs := l.flatMap SysX.cells) (by unfold MadeY; rw [HL.out]; rfl); exact ho.cap
          unfold maxLen at hcap
          have HSP := Lib.hid (made_split H3.out i hx)
          clear hgl hgf hgc fg hx
          go_upto_region 10 with (fail)
          generalize bits BinOp.and IntKind.i64 (↑X / 2 ^ (3 * k)) 7 = ev
          by_cases e1 : ev = 1
          · subst e1
            obtain ⟨⟨ra, rc, rl⟩, hrow⟩ : ∃ r : RowV, x.row 1 = r := ⟨_, rfl⟩
            have HROW := Lib.hid hrow
            have hyv : x.w.v = .slice ra rl.length rc := by rw [show x.w = x.row 1 from rfl, hrow]; rfl
            rw [hyv] at y1
            have hml := HRX.out 1
            rw [hrow] at hml
            simp only at hml
            obtain ⟨m, hm⟩ : ∃ m, rl.length = m := ⟨_, rfl⟩
            rw [hm] at y1 hml
            have hps : (usePs x ++ (MadeY (.slice (some ⟨gs, 0, none⟩) n c) l).set (i + 1) empA)[1]? = some (slA 3 1 (.slice ra m rc) m (ints rl)) := by
              rw [List.getElem?_append_left (by simp [usePs]), row_ps x 1 (by decide), hrow]
              unfold rowI RowV.v
              simp only [hm]
            obtain ⟨G, hown, _, hup, _⟩ := HSP.out.opens 1 hps
            have HOwn : Hid (Own G wr 3 1 (.slice ra m rc) m (ints rl)) := Lib.hid hown
            have HUP := Lib.hid hup
            have HMM := Lib.hid hm
            have hini : (i : Int) < n := by omega
            clear hrow hyv hm hps hown hup hrx
            go_wp2_with (at_builtin; refine wpList_app (P := Try.prog) slInt rfl _ _ rfl (S := G) (S2 := fun z => z = wr.heap.size) (n := m) (xs := ints rl) (m := 1) (news := ints [(k : Int)]) rfl rfl ?_ ?_ ?_ ?_ ?_ ?_ ?_)
            · exact HOwn.out.keep (T := Nope) ((Keep.refl wr Nope).alloc _) (fun _ _ f => f)
            · exact rd_one wr k
            · rfl
            · exact ints_one _
            · omega
            · unfold maxLen; omega
            rintro a' k' c' w5 happ
            obtain ⟨q1, q2⟩ := app_up (wr := wr) ((Keep.refl wr Nope).alloc _) happ
            obtain rfl := happ.num
            have h5 := HUP.out w5 _ q1 q2
            rw [← ints_app] at h5
            have hnl : (rl ++ [(k : Int)]).length = m + 1 := by rw [List.length_append, HMM.out]; rfl
            have h6 : St w w5 ((usePs x).set 1 (rowI ⟨a', c', rl ++ [(k : Int)]⟩) ++ (MadeY (.slice (some ⟨gs, 0, none⟩) n c) l).set (i + 1) empA) := by
              rw [List.set_append_left _ _ (by simp [usePs])] at h5
              unfold rowI RowV.v
              simp only [hnl]
              exact h5
            obtain ⟨g', he, hgl, hgf, hgc, hst8⟩ := h6.store 5 (n := n) (a := some ⟨gs, 0, none⟩) (c := c) (e := 35) (size := 8) (xs := l.flatMap SysX.cells) (by
              rw [List.getElem?_append_right (by simp [usePs])]
              have e5 : 5 - ((usePs x).set 1 (rowI ⟨a', c', rl ++ [(k : Int)]⟩)).length = 0 := by simp [usePs]
              rw [e5]
              unfold MadeY
              rw [HL.out]
              rfl) (by omega)
            injection he with he
            injection he with he
            subst he
            have zf := hgf (i * 8 + 1)
            have zc := hgc (i * 8 + 1) (by omega)
            rw [flat_get SysX.cells 8 (fun _ => rfl) l i 1 _ HX.out (by decide)] at zc
            simp only [SysX.cells, List.getElem?_cons_zero, List.getElem?_cons_succ] at zc
            (try simp only [Nat.add_zero] at zf zc)
            have h8 := hst8 (i * 8 + 1) (.slice a' (m + 1) c')
            have h9 := made_join i 1 (by decide) HX.out ⟨a', c', rl ++ [(k : Int)]⟩ (v := .slice (some ⟨gs, 0, none⟩) n c) (w := w) (w5 := w5.setCell ⟨gs, i * 8 + 1, none⟩ (.slice a' (m + 1) c')) (by
              unfold RowV.v
              simp only [hnl]
              rw [HL.out]
              exact h8)
            (try simp only [Nat.add_zero] at h9)
            have H9 := Lib.hid h9
            clear happ q1 q2 h5 h6 h8 h9 hst8 hgf hgc hgl y1
            go_wp2_with fail
            go_roundg (5 - (k + 1))
            case measure => have := HG.out; omega
            case rel =>
              refine ⟨k + 1, l.set i (x.setRow 1 ⟨a', c', rl ++ [(k : Int)]⟩), by omega, by go_num, by rw [List.length_set]; exact HL.out, tame_set HT.out HX.out (setRow_af ..), short_set HSH.out (by omega) (row_setRow (B := 5 * i + i + k) HRX.out (by show (rl ++ [(k : Int)]).length ≤ _; rw [hnl]; omega)), H9.out⟩
          · by_cases e2 : ev = 2
            · subst e2
              have b1 : ((2 : Int) == 1) = false := by decide
              obtain ⟨⟨ra, rc, rl⟩, hrow⟩ : ∃ r : RowV, x.row 0 = r := ⟨_, rfl⟩
              have HROW := Lib.hid hrow
              have hyv : x.r.v = .slice ra rl.length rc := by rw [show x.r = x.row 0 from rfl, hrow]; rfl
              rw [hyv] at y0
              have hml := HRX.out 0
              rw [hrow] at hml
              simp only at hml
              obtain ⟨m, hm⟩ : ∃ m, rl.length = m := ⟨_, rfl⟩
              rw [hm] at y0 hml
              have hps : (usePs x ++ (MadeY (.slice (some ⟨gs, 0, none⟩) n c) l).set (i + 1) empA)[0]? = some (slA 3 1 (.slice ra m rc) m (ints rl)) := by
                rw [List.getElem?_append_left (by simp [usePs]), row_ps x 0 (by decide), hrow]
                unfold rowI RowV.v
                simp only [hm]
              obtain ⟨G, hown, _, hup, _⟩ := HSP.out.opens 0 hps
              have HOwn : Hid (Own G wr 3 1 (.slice ra m rc) m (ints rl)) := Lib.hid hown
              have HUP := Lib.hid hup
              have HMM := Lib.hid hm
              have hini : (i : Int) < n := by omega
              clear hrow hyv hm hps hown hup hrx
              go_wp2_with (at_builtin; refine wpList_app (P := Try.prog) slInt rfl _ _ rfl (S := G) (S2 := fun z => z = wr.heap.size) (n := m) (xs := ints rl) (m := 1) (news := ints [(k : Int)]) rfl rfl ?_ ?_ ?_ ?_ ?_ ?_ ?_)
              · exact HOwn.out.keep (T := Nope) ((Keep.refl wr Nope).alloc _) (fun _ _ f => f)
              · exact rd_one wr k
              · rfl
              · exact ints_one _
              · omega
              · unfold maxLen; omega
              rintro a' k' c' w5 happ
              obtain ⟨q1, q2⟩ := app_up (wr := wr) ((Keep.refl wr Nope).alloc _) happ
              obtain rfl := happ.num
              have h5 := HUP.out w5 _ q1 q2
              rw [← ints_app] at h5
              have hnl : (rl ++ [(k : Int)]).length = m + 1 := by rw [List.length_append, HMM.out]; rfl
              have h6 : St w w5 ((usePs x).set 0 (rowI ⟨a', c', rl ++ [(k : Int)]⟩) ++ (MadeY (.slice (some ⟨gs, 0, none⟩) n c) l).set (i + 1) empA) := by
                rw [List.set_append_left _ _ (by simp [usePs])] at h5
                unfold rowI RowV.v
                simp only [hnl]
                exact h5
              obtain ⟨g', he, hgl, hgf, hgc, hst8⟩ := h6.store 5 (n := n) (a := some ⟨gs, 0, none⟩) (c := c) (e := 35) (size := 8) (xs := l.flatMap SysX.cells) (by
                rw [List.getElem?_append_right (by simp [usePs])]
                have e5 : 5 - ((usePs x).set 0 (rowI ⟨a', c', rl ++ [(k : Int)]⟩)).length = 0 := by simp [usePs]
                rw [e5]
                unfold MadeY
                rw [HL.out]
                rfl) (by omega)
              injection he with he
              injection he with he
              subst he
              have zf := hgf (i * 8 + 0)
              have zc := hgc (i * 8 + 0) (by omega)
              rw [flat_get SysX.cells 8 (fun _ => rfl) l i 0 _ HX.out (by decide)] at zc
              simp only [SysX.cells, List.getElem?_cons_zero, List.getElem?_cons_succ] at zc
              (try simp only [Nat.add_zero] at zf zc)
              have h8 := hst8 (i * 8 + 0) (.slice a' (m + 1) c')
              have h9 := made_join i 0 (by decide) HX.out ⟨a', c', rl ++ [(k : Int)]⟩ (v := .slice (some ⟨gs, 0, none⟩) n c) (w := w) (w5 := w5.setCell ⟨gs, i * 8 + 0, none⟩ (.slice a' (m + 1) c')) (by
                unfold RowV.v
                simp only [hnl]
                rw [HL.out]
                exact h8)
              (try simp only [Nat.add_zero] at h9)
              have H9 := Lib.hid h9
              clear happ q1 q2 h5 h6 h8 h9 hst8 hgf hgc hgl y0
              go_wp2_with fail
              go_roundg (5 - (k + 1))
              case measure => have := HG.out; omega
              case rel =>
                refine ⟨k + 1, l.set i (x.setRow 0 ⟨a', c', rl ++ [(k : Int)]⟩), by omega, by go_num, by rw [List.length_set]; exact HL.out, tame_set HT.out HX.out (setRow_af ..), short_set HSH.out (by omega) (row_setRow (B := 5 * i + i + k) HRX.out (by show (rl ++ [(k : Int)]).length ≤ _; rw [hnl]; omega)), H9.out⟩
            · by_cases e3 : ev = 3
              · subst e3
                have b1 : ((3 : Int) == 1) = false := by decide
                have b2 : ((3 : Int) == 2) = false := by decide
                obtain ⟨⟨ra, rc, rl⟩, hrow⟩ : ∃ r : RowV, x.row 2 = r := ⟨_, rfl⟩
                have HROW := Lib.hid hrow
                have hyv : x.rr.v = .slice ra rl.length rc := by rw [show x.rr = x.row 2 from rfl, hrow]; rfl
                rw [hyv] at y2
                have hml := HRX.out 2
                rw [hrow] at hml
                simp only at hml
                obtain ⟨m, hm⟩ : ∃ m, rl.length = m := ⟨_, rfl⟩
                rw [hm] at y2 hml
                have hps : (usePs x ++ (MadeY (.slice (some ⟨gs, 0, none⟩) n c) l).set (i + 1) empA)[2]? = some (slA 3 1 (.slice ra m rc) m (ints rl)) := by
                  rw [List.getElem?_append_left (by simp [usePs]), row_ps x 2 (by decide), hrow]
                  unfold rowI RowV.v
                  simp only [hm]
                obtain ⟨G, hown, _, hup, _⟩ := HSP.out.opens 2 hps
                have HOwn : Hid (Own G wr 3 1 (.slice ra m rc) m (ints rl)) := Lib.hid hown
                have HUP := Lib.hid hup
                have HMM := Lib.hid hm
                have hini : (i : Int) < n := by omega
                clear hrow hyv hm hps hown hup hrx
                go_wp2_with (at_builtin; refine wpList_app (P := Try.prog) slInt rfl _ _ rfl (S := G) (S2 := fun z => z = wr.heap.size) (n := m) (xs := ints rl) (m := 1) (news := ints [(k : Int)]) rfl rfl ?_ ?_ ?_ ?_ ?_ ?_ ?_)
                · exact HOwn.out.keep (T := Nope) ((Keep.refl wr Nope).alloc _) (fun _ _ f => f)
                · exact rd_one wr k
                · rfl
                · exact ints_one _
                · omega
                · unfold maxLen; omega
                rintro a' k' c' w5 happ
                obtain ⟨q1, q2⟩ := app_up (wr := wr) ((Keep.refl wr Nope).alloc _) happ
                obtain rfl := happ.num
                have h5 := HUP.out w5 _ q1 q2
                rw [← ints_app] at h5
                have hnl : (rl ++ [(k : Int)]).length = m + 1 := by rw [List.length_append, HMM.out]; rfl
                have h6 : St w w5 ((usePs x).set 2 (rowI ⟨a', c', rl ++ [(k : Int)]⟩) ++ (MadeY (.slice (some ⟨gs, 0, none⟩) n c) l).set (i + 1) empA) := by
                  rw [List.set_append_left _ _ (by simp [usePs])] at h5
                  unfold rowI RowV.v
                  simp only [hnl]
                  exact h5
                obtain ⟨g', he, hgl, hgf, hgc, hst8⟩ := h6.store 5 (n := n) (a := some ⟨gs, 0, none⟩) (c := c) (e := 35) (size := 8) (xs := l.flatMap SysX.cells) (by
                  rw [List.getElem?_append_right (by simp [usePs])]
                  have e5 : 5 - ((usePs x).set 2 (rowI ⟨a', c', rl ++ [(k : Int)]⟩)).length = 0 := by simp [usePs]
                  rw [e5]
                  unfold MadeY
                  rw [HL.out]
                  rfl) (by omega)
                injection he with he
                injection he with he
                subst he
                have zf := hgf (i * 8 + 2)
                have zc := hgc (i * 8 + 2) (by omega)
                rw [flat_get SysX.cells 8 (fun _ => rfl) l i 2 _ HX.out (by decide)] at zc
                simp only [SysX.cells, List.getElem?_cons_zero, List.getElem?_cons_succ] at zc
                (try simp only [Nat.add_zero] at zf zc)
                have h8 := hst8 (i * 8 + 2) (.slice a' (m + 1) c')
                have h9 := made_join i 2 (by decide) HX.out ⟨a', c', rl ++ [(k : Int)]⟩ (v := .slice (some ⟨gs, 0, none⟩) n c) (w := w) (w5 := w5.setCell ⟨gs, i * 8 + 2, none⟩ (.slice a' (m + 1) c')) (by
                  unfold RowV.v
                  simp only [hnl]
                  rw [HL.out]
                  exact h8)
                (try simp only [Nat.add_zero] at h9)
                have H9 := Lib.hid h9
                clear happ q1 q2 h5 h6 h8 h9 hst8 hgf hgc hgl y2
                go_wp2_with fail
                go_roundg (5 - (k + 1))
                case measure => have := HG.out; omega
                case rel =>
                  refine ⟨k + 1, l.set i (x.setRow 2 ⟨a', c', rl ++ [(k : Int)]⟩), by omega, by go_num, by rw [List.length_set]; exact HL.out, tame_set HT.out HX.out (setRow_af ..), short_set HSH.out (by omega) (row_setRow (B := 5 * i + i + k) HRX.out (by show (rl ++ [(k : Int)]).length ≤ _; rw [hnl]; omega)), H9.out⟩
              · have b1 : (ev == 1) = false := beq_eq_false_iff_ne.2 e1
                have b2 : (ev == 2) = false := beq_eq_false_iff_ne.2 e2
                have b3 : (ev == 3) = false := beq_eq_false_iff_ne.2 e3
                clear hrx
                go_wp2_with fail
                go_roundg (5 - (k + 1))
                case measure => have := HG.out; omega
                case rel => exact ⟨k + 1, l, by omega, by go_num, HL.out, HT.out, short_mono HSH.out (by omega), H3.out⟩
        · obtain rfl : k = 5 := by omega
          have hkd : decide (((5 : Nat) : Int) < 5) = false := by decide
          have hkd2 : decide ((5 : Int) < 5) = false := by decide
          obtain ⟨x, hx⟩ : ∃ x, l[i]? = some x := ⟨_, List.getElem?_eq_getElem (by rw [HL.out]; exact hlt)⟩
          obtain ⟨gs, rfl, hgl, hgf, hgc, _⟩ := H3.out.store 0 (n := n) (a := a) (c := c) (e := 35) (size := 8) (xs := l.flatMap SysX.cells) (by unfold MadeY; rw [HL.out]; rfl) (by omega)
          have hcap : n ≤ c ∧ c ≤ maxLen := by obtain ⟨_, ho, _⟩ := H3.out.rd 0 (n := n) (v := .slice (some ⟨gs, 0, none⟩) n c) (e := 35) (size := 8) (xs := l.flatMap SysX.cells) (by unfold MadeY; rw [HL.out]; rfl); exact ho.cap
          unfold maxLen at hcap
          have HX := Lib.hid hx
          have hini : (i : Int) < n := by omega
          clear hgl hgf hgc hx
          by_cases e1 : bits BinOp.and IntKind.i64 ((X : Int) / 2 ^ 16) 7 = 1
          · have hb1 : (bits BinOp.and IntKind.i64 ((X : Int) / 2 ^ 16) 7 == 1) = true := by rw [e1]; rfl
            have hb1' : (bits BinOp.and IntKind.i64 ((X : Int) / 65536) 7 == 1) = true := hb1
            have hmn := fun y => made_new H3.out i HX.out y
            have hzz := fun y => (hmn y).store 5 (n := n) (a := some ⟨gs, 0, none⟩) (c := c) (e := 35) (size := 8) (xs := l.flatMap SysX.cells) (by
              rw [List.getElem?_append_right (by simp [usePs])]
              have e5 : 5 - ((usePs x).set 3 (rowI ⟨some ⟨wr.heap.size, 0, none⟩, 1, [y]⟩)).length = 0 := by simp [usePs]
              rw [e5]
              unfold MadeY
              rw [HL.out]
              rfl) (by omega)
            have hz : ∀ y : Int, (wr.alloc (.cells #[.int .i64 y] 3)).frozen? ⟨gs, i * 8 + 3, none⟩ = false ∧ (wr.alloc (.cells #[.int .i64 y] 3)).cell? ⟨gs, i * 8 + 3, none⟩ = some x.rw'.v ∧ St w ((wr.alloc (.cells #[.int .i64 y] 3)).setCell ⟨gs, i * 8 + 3, none⟩ (.slice (some ⟨wr.heap.size, 0, none⟩) 1 1)) (MadeY (.slice (some ⟨gs, 0, none⟩) n c) (l.set i (x.setRow 3 ⟨some ⟨wr.heap.size, 0, none⟩, 1, [y]⟩))) := fun y => by
              obtain ⟨g', he, _, hgf, hgc, hst8⟩ := hzz y
              injection he with he
              injection he with he
              subst he
              have h8 := hst8 (i * 8 + 3) (.slice (some ⟨wr.heap.size, 0, none⟩) 1 1)
              have zc := hgc (i * 8 + 3) (by omega)
              rw [flat_get SysX.cells 8 (fun _ => rfl) l i 3 _ HX.out (by decide)] at zc
              simp only [SysX.cells, List.getElem?_cons_zero, List.getElem?_cons_succ] at zc
              exact ⟨hgf (i * 8 + 3), zc, made_join i 3 (by decide) HX.out ⟨some ⟨wr.heap.size, 0, none⟩, 1, [y]⟩ (v := .slice (some ⟨gs, 0, none⟩) n c) (w := w) (w5 := (wr.alloc (.cells #[.int .i64 y] 3)).setCell ⟨gs, i * 8 + 3, none⟩ (.slice (some ⟨wr.heap.size, 0, none⟩) 1 1)) (by rw [HL.out]; exact h8)⟩
            have HZ := Lib.hid hz
            clear hz
            have zf := fun y => (HZ.out y).1
            have zc := fun y => (HZ.out y).2.1
            clear hmn hzz
            go_upto_region 18 with (fail)
            generalize bits BinOp.and IntKind.i64 ((X : Int) / 524288) 3 = y
            obtain ⟨w5, hw5⟩ : ∃ w5, w5 = (wr.alloc (.cells #[.int .i64 y] 3)).setCell ⟨gs, i * 8 + 3, none⟩ (.slice (some ⟨wr.heap.size, 0, none⟩) 1 1) := ⟨_, rfl⟩
            rw [← hw5]
            obtain ⟨x5, hx5⟩ : ∃ x5, x5 = x.setRow 3 ⟨some ⟨wr.heap.size, 0, none⟩, 1, [y]⟩ := ⟨_, rfl⟩
            obtain ⟨l5, hl5⟩ : ∃ l5, l5 = l.set i x5 := ⟨_, rfl⟩
            have H5 := Lib.hid (show St w w5 (MadeY (.slice (some ⟨gs, 0, none⟩) n c) l5) by rw [hl5, hw5, hx5]; exact (HZ.out y).2.2)
            have HL5 := Lib.hid (show l5.length = n by rw [hl5, List.length_set]; exact HL.out)
            have HX5 := Lib.hid (show l5[i]? = some x5 by rw [hl5]; exact List.getElem?_set_self (by rw [HL.out]; exact hlt))
            have HT5 := Lib.hid (show tameX tame n l5 by rw [hl5]; exact tame_set HT.out HX.out (by rw [hx5]; exact setRow_af ..))
            have HSH5 := Lib.hid (show shortX (5 * i + i + 6) l5 by rw [hl5, hx5]; exact short_set HSH.out (by omega) (row_setRow (B := 5 * i + i + 5) (fun f => HSH.out x (List.mem_of_getElem? HX.out) f) (by show 1 ≤ _; omega)))
            clear hw5 hl5 hx5 H3 HL HX HT HSH HZ zf zc
            obtain ⟨gq, he, hgl, hgf, hgc, hst8⟩ := H5.out.store 0 (n := n) (a := some ⟨gs, 0, none⟩) (c := c) (e := 35) (size := 8) (xs := l5.flatMap SysX.cells) (by unfold MadeY; rw [HL5.out]; rfl) (by omega)
            injection he with he
            injection he with he
            subst he
            have zf := hgf (i * 8 + 4)
            have zc := hgc (i * 8 + 4) (by omega)
            rw [flat_get SysX.cells 8 (fun _ => rfl) l5 i 4 _ HX5.out (by decide)] at zc
            simp only [SysX.cells, List.getElem?_cons_zero, List.getElem?_cons_succ] at zc
            have HA := Lib.hid (fun b => made_al i HX5.out b (v := .slice (some ⟨gs, 0, none⟩) n c) (w := w) (w5 := w5.setCell ⟨gs, i * 8 + 4, none⟩ (.bool b)) (by rw [HL5.out]; exact hst8 (i * 8 + 4) (.bool b)))
            clear hgl hgf hgc hst8
            go_wp2_with fail
            go_roundg (n - (i + 1))
            case measure => have := HI.out; omega
            case rel =>
              refine ⟨i + 1, _, by omega, by omega, by go_num, ?_, ?_, ?_, HA.out _⟩
              · rw [List.length_set]; exact HL5.out
              · exact tame_set HT5.out HX5.out rfl
              · exact short_set HSH5.out (by omega) (fun f => by
                  have := HSH5.out x5 (List.mem_of_getElem? HX5.out) f
                  refine Nat.le_trans (Nat.le_of_eq ?_) (Nat.le_trans this (by omega))
                  unfold SysX.row
                  split <;> rfl)
          · have hb1 : (bits BinOp.and IntKind.i64 ((X : Int) / 2 ^ 16) 7 == 1) = false := beq_eq_false_iff_ne.2 e1
            have hb1' : (bits BinOp.and IntKind.i64 ((X : Int) / 65536) 7 == 1) = false := hb1
            obtain ⟨l5, hl5⟩ : ∃ l5, l5 = l := ⟨_, rfl⟩
            obtain ⟨x5, hx5⟩ : ∃ x5, x5 = x := ⟨_, rfl⟩
            obtain ⟨w5, hw5⟩ : ∃ w5, w5 = wr := ⟨_, rfl⟩
            have H5 := Lib.hid (show St w w5 (MadeY (.slice (some ⟨gs, 0, none⟩) n c) l5) by rw [hl5, hw5]; exact H3.out)
            have HL5 := Lib.hid (show l5.length = n by rw [hl5]; exact HL.out)
            have HX5 := Lib.hid (show l5[i]? = some x5 by rw [hl5, hx5]; exact HX.out)
            have HT5 := Lib.hid (show tameX tame n l5 by rw [hl5]; exact HT.out)
            have HSH5 := Lib.hid (show shortX (5 * i + i + 5) l5 by rw [hl5]; exact HSH.out)
            go_upto_region 18 with (fail)
            rw [← hw5]
            clear hw5 hl5 hx5 H3 HL HX HT HSH
            obtain ⟨gq, he, hgl, hgf, hgc, hst8⟩ := H5.out.store 0 (n := n) (a := some ⟨gs, 0, none⟩) (c := c) (e := 35) (size := 8) (xs := l5.flatMap SysX.cells) (by unfold MadeY; rw [HL5.out]; rfl) (by omega)
            injection he with he
            injection he with he
            subst he
            have zf := hgf (i * 8 + 4)
            have zc := hgc (i * 8 + 4) (by omega)
            rw [flat_get SysX.cells 8 (fun _ => rfl) l5 i 4 _ HX5.out (by decide)] at zc
            simp only [SysX.cells, List.getElem?_cons_zero, List.getElem?_cons_succ] at zc
            have HA := Lib.hid (fun b => made_al i HX5.out b (v := .slice (some ⟨gs, 0, none⟩) n c) (w := w) (w5 := w5.setCell ⟨gs, i * 8 + 4, none⟩ (.bool b)) (by rw [HL5.out]; exact hst8 (i * 8 + 4) (.bool b)))
            clear hgl hgf hgc hst8
            go_wp2_with fail
            go_roundg (n - (i + 1))
            case measure => have := HI.out; omega
            case rel =>
              refine ⟨i + 1, _, by omega, by omega, by go_num, ?_, ?_, ?_, HA.out _⟩
              · rw [List.length_set]; exact HL5.out
              · exact tame_set HT5.out HX5.out rfl
              · exact short_set HSH5.out (by omega) (fun f => by
                  have := HSH5.out x5 (List.mem_of_getElem? HX5.out) f
                  refine Nat.le_trans (Nat.le_of_eq ?_) (Nat.le_trans this (by omega))
                  unfold SysX.row
                  split <;> rfl)
    · have hx : (i : Int) < n → ¬ (i : Int) < uses.length := by omega
      have hno : ¬ (i : Int) < n ∨ ((i : Int) < n ∧ ¬ (i : Int) < uses.length) := by omega
      clear hlt hx
      have hln := HL.out
      rcases hno with hx1 | ⟨hx1, hx2⟩
      all_goals
        go_wp2_with fail
        go_ret
        exact ⟨a, c, l, by rw [hln]; rfl, by rw [hln]; exact H2.out, hln, HT.out, short_mono HSH.out (by omega)⟩
end Go.Proofs.Ytbigknmeooaidaa
