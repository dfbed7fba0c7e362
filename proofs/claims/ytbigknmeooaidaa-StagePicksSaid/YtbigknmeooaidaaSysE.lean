/-
  The law's own 'Systems': systems that wait for others, raw or made to be of those that are there.
-/
import Derived.Test.YtbigknmeooaidaaRowE
namespace Go.Proofs.Ytbigknmeooaidaa
open Go Go.RowKit
set_option linter.unusedVariables false
set_option linter.unusedSimpArgs false

/-- The last two claims are put first. -/
theorem St.front2 {w0 w : World} {l : List Asr} {A B : Asr} (h : St w0 w ([] ++ l ++ [A] ++ [B])) : St w0 w ([A, B] ++ l) := by
  simp only [List.nil_append] at h
  refine h.pick (fun i => if i = 0 then l.length else if i = 1 then l.length + 1 else i - 2) (fun i j hi hj e => ?_) (fun i C hi => ?_)
  · simp only [List.length_append, List.length_cons, List.length_nil] at hi hj
    split at e <;> split at e <;> (try split at e) <;> (try split at e) <;> omega
  · match i, hi with
    | 0, hi =>
      simp at hi
      subst hi
      simp
    | 1, hi =>
      simp at hi
      subst hi
      simp
    | i + 2, hi =>
      have hi' : l[i]? = some C := by simpa using hi
      have hl := (List.getElem?_eq_some_iff.1 hi').1
      simp only [Nat.add_eq_zero_iff, Nat.succ_ne_zero, and_false, if_false, Nat.add_sub_cancel]
      rw [if_neg (by omega), List.append_assoc, List.getElem?_append_left hl]
      exact hi'

theorem slSys : SlTy Try.prog 24 35 8 176 := SlTy.mk' (.agg #[.slice none 0 0, .slice none 0 0, .slice none 0 0, .slice none 0 0, .bool false, .slice none 0 0, .slice none 0 0, .slice none 0 0]) Try.underlying24 (by kernel_rfl) rfl (by decide)
theorem flatSys_one (l : List SysV) : ∀ u ∈ l.flatMap SysV.cells, u.oneCell' = true := by
  intro u hu
  obtain ⟨o, _, ho⟩ := List.mem_flatMap.1 hu
  simp [SysV.cells, SlV.v] at ho
  rcases ho with rfl | rfl | rfl | rfl | rfl | rfl | rfl | rfl <;> rfl

/-- What is owned while the systems are made: the row, and what each waits for. -/
def MadeL (v : Value) (l : List SysV) : List Asr := slA 35 8 v l.length (l.flatMap SysV.cells) :: l.map afA
structure MadeS (w wr : World) (v : Value) (l : List SysV) (R : List Asr) : Prop where
  st : St w wr (R ++ MadeL v l)
  af : ∀ y, y ∈ l → y.af.n = y.aft.length

/-- The systems are handed back. -/
def RetSys (w : World) (n : Nat) (en : Ending) (w' : World) : Prop :=
  ∃ (a : Option Addr) (c : Nat) (l : List SysV) (S : Nat → Prop), en = .returned (.slice a l.length c) ∧ RdSys S w' (.slice a l.length c) l ∧ (∀ z, S z → w.heap.size ≤ z ∧ z < w'.heap.size) ∧ Below w.heap.size w w' ∧ l.length = n

theorem made_ret {w wr : World} {a : Option Addr} {c m n : Nat} {l : List SysV} (h : MadeS w wr (.slice a m c) l []) (hm : l.length = m) (hn : m = n) : RetSys w n (.returned (.slice a m c)) wr := by
  obtain ⟨hst, haf⟩ := h
  subst hm
  have hbel := hst.bel
  obtain ⟨_, G, k1, k2, k3⟩ := hst
  refine ⟨a, c, l, fun z => w.heap.size ≤ z ∧ z < wr.heap.size, rfl, ⟨(Own.rd (k1 0 _ rfl)).mono (k2 0), fun y hy => ⟨haf y hy, ?_⟩⟩, fun z hz => hz, hbel, hn⟩
  obtain ⟨p, hp, rfl⟩ := List.getElem_of_mem hy
  have := k1 (p + 1) (afA l[p]) (by unfold MadeL; simp [hp])
  exact (Own.rd this).mono (k2 (p + 1))

theorem made_step {w w5 : World} {a5 a6 a' : Option Addr} {i c5 m c6 c' bs : Nat} {l : List SysV} {L : List Int} {cs : Array Value}
    (hs : St w w5 (([blkA bs cs 35, slA 3 1 (.slice a6 m c6) m (ints L)] ++ MadeL (.slice a5 i c5) l).set 2 (slA 35 8 (.slice a' (i + 1) c') (i + 1) (l.flatMap SysV.cells ++ [sysOf ⟨a6, m, c6⟩ L].flatMap SysV.cells))))
    (hl : l.length = i) (hm : L.length = m) (haf : ∀ y, y ∈ l → y.af.n = y.aft.length) : MadeS w w5 (.slice a' (i + 1) c') (l ++ [sysOf ⟨a6, m, c6⟩ L]) [] := by
  subst hl; subst hm
  refine ⟨?_, fun y hy => ?_⟩
  · refine hs.pick (fun j => if j = 0 then 2 else if j = l.length + 1 then 1 else j + 2) (fun i j hi hj e => ?_) (fun j C hj => ?_)
    · simp only [MadeL, List.nil_append, List.length_cons, List.length_map, List.length_append, List.length_nil] at hi hj
      by_cases a1 : i = 0 <;> by_cases a2 : j = 0 <;> by_cases a3 : i = l.length + 1 <;> by_cases a4 : j = l.length + 1 <;> simp [a1, a2, a3, a4] at e <;> omega
    · unfold MadeL at hj ⊢
      rw [List.nil_append] at hj
      match j, hj with
      | 0, hj =>
        simp at hj
        subst hj
        simp
      | j + 1, hj =>
        rw [List.getElem?_cons_succ, List.map_append] at hj
        by_cases e : j = l.length
        · subst e
          rw [List.getElem?_append_right (by simp)] at hj
          simp at hj
          subst hj
          simp [afA, sysOf, SlV.v]
        · have hjl : j < l.length := by
            have := (List.getElem?_eq_some_iff.1 hj).1
            simp at this
            omega
          rw [List.getElem?_append_left (by simpa using hjl)] at hj
          have e1 : ¬ (j + 1 = l.length + 1) := by omega
          simp only [Nat.add_eq_zero_iff, Nat.succ_ne_zero, and_false, if_false, e1]
          simpa using hj
  · rcases List.mem_append.1 hy with hy | hy
    · exact haf y hy
    · simp at hy
      subst hy
      rfl

def LoopS1 (w : World) (n : Nat) (g : Nat) (v5 v7 : Value) (wr : World) : Prop :=
  ∃ (i : Nat) (l : List SysV) (a : Option Addr) (c : Nat), g + i = n ∧ v7 = .int .i64 i ∧ l.length = i ∧ v5 = .slice a i c ∧ MadeS w wr (.slice a i c) l []
/-- The system that is being made lies in a block of its own; what it waits for is a row of its own. -/
def LoopS2 (w : World) (v5 : Value) (l : List SysV) (bs : Nat) (g : Nat) (v9 : Value) (wr : World) : Prop :=
  ∃ (k m : Nat) (a : Option Addr) (c : Nat) (L : List Int), g + k = 10 ∧ k ≤ 10 ∧ v9 = .int .i64 k ∧ L.length = m ∧ m ≤ k ∧ MadeS w wr v5 l [blkA bs #[.slice none 0 0, .slice none 0 0, .slice none 0 0, .slice none 0 0, .bool false, .slice none 0 0, .slice none 0 0, .slice a m c] 35, slA 3 1 (.slice a m c) m (ints L)]

set_option maxRecDepth 100000 in
set_option maxHeartbeats 4000000 in
theorem systems_any (v : Value) (rs : List RowV) (tame : Bool) (w : World) (S : Nat → Prop) (h : RdRows S w v rs) (hS : ∀ i, S i → i < w.heap.size) :
    Calls Try.prog 32 #[v, .bool tame] w (RetSys w (min rs.length 66)) := by
  obtain ⟨a, c, rfl, g1, g2, g3, g4⟩ := id h.rd
  have hlen : rs.length ≤ 9223372036854775807 := by unfold maxLen at g2; omega
  clear g1 g2 g3 g4
  have H := Lib.hid h; clear h
  obtain ⟨n, hn⟩ : ∃ n, n = min rs.length 66 := ⟨_, rfl⟩
  rw [← hn]
  go_enter Try.func32, Try.ntmps32
  go_upto_region 2 with (fail)
  go_cut [6] (fun v6 wx => v6 = .int .i64 (n : Int) ∧ w = wx)
  case first =>
    by_cases h20 : 66 < rs.length
    · have h20' : (66 : Int) < rs.length := by omega
      have e : n = 66 := by omega
      subst e
      clear hn
      go_wp2_with fail
      go_meet
      case rel => exact ⟨rfl, rfl⟩
    · have h20' : ¬ (66 : Int) < rs.length := by omega
      obtain rfl : n = rs.length := by omega
      clear hn
      go_wp2_with fail
      go_meet
      case rel => exact ⟨rfl, rfl⟩
  case rest =>
    obtain ⟨rfl, rfl⟩ := hcut
    have hnl : n ≤ rs.length := by omega
    have hn66 : n ≤ 66 := by omega
    clear hn
    go_wp2_with fail
    go_loopg [5, 7] n (fun g v5 v7 wr => LoopS1 w n g v5 v7 wr)
    case atStart => exact ⟨0, [], none, 0, rfl, rfl, rfl, rfl, ⟨(St.start w).add (Keep.refl _ _) (A := slA 35 8 (.slice none 0 0) 0 []) (Own.nil _ _ _ _), by simp⟩⟩
    case round =>
      obtain ⟨i, l, a5, c5, hg, rfl, hl, rfl, hmade⟩ := hrel
      have hin : i ≤ n := by omega
      have HG := Lib.hid hg; clear hg
      have HL := Lib.hid hl; clear hl
      have HMD := Lib.hid hmade; clear hmade
      by_cases hlt : i < n
      · obtain ⟨r, hr⟩ : ∃ r, rs[i]? = some r := ⟨_, List.getElem?_eq_getElem (by omega)⟩
        obtain ⟨bo, oo, rfl, _, hcr, hrr⟩ := H.out.get hr
        have HCR := Lib.hid hcr; clear hcr
        have HRR := Lib.hid hrr; clear hrr hr
        have hrl : r.l.length ≤ 9223372036854775807 := by
          obtain ⟨_, _, e, e1, e2, _⟩ := HRR.out
          unfold maxLen at e2
          omega
        have hirs : i < rs.length := by omega
        obtain ⟨bs, hbs⟩ : ∃ bs, wr.heap.size = bs := ⟨_, rfl⟩
        have hmd2 : MadeS w (wr.alloc (.cells #[.slice none 0 0, .slice none 0 0, .slice none 0 0, .slice none 0 0, .bool false, .slice none 0 0, .slice none 0 0, .slice none 0 0] 35)) (.slice a5 i c5) l [blkA bs #[.slice none 0 0, .slice none 0 0, .slice none 0 0, .slice none 0 0, .bool false, .slice none 0 0, .slice none 0 0, .slice none 0 0] 35, slA 3 1 (.slice none 0 0) 0 (ints [])] := by
          have h1 := (HMD.out.st.box #[.slice none 0 0, .slice none 0 0, .slice none 0 0, .slice none 0 0, .bool false, .slice none 0 0, .slice none 0 0, .slice none 0 0] 35).add (Keep.refl _ _) (A := slA 3 1 (.slice none 0 0) 0 (ints [])) (Own.nil _ _ _ _)
          rw [hbs] at h1
          exact ⟨St.front2 h1, HMD.out.af⟩
        have HM2 := Lib.hid hmd2; clear hmd2
        go_wp2_with fail
        go_loopg [9] 10 (fun g v9 wr => LoopS2 w (.slice a5 i c5) l bs g v9 wr)
        case atStart => exact ⟨0, 0, none, 0, [], rfl, by omega, rfl, rfl, by omega, HM2.out⟩
        case round =>
          obtain ⟨k, m, a6, c6, L, hg, hk10, rfl, hLm, hmk, hmade⟩ := hrel
          have HGK := Lib.hid hg; clear hg HM2
          have HLM := Lib.hid hLm; clear hLm
          have HMD2 := Lib.hid hmade; clear hmade
          have hbl := (HMD2.out.st.blk 0 rfl)
          have cs7 := hbl.cell 7
          have cs0 := hbl.cell 0
          have cs1 := hbl.cell 1
          have cs2 := hbl.cell 2
          have cs3 := hbl.cell 3
          have cs4 := hbl.cell 4
          have cs5 := hbl.cell 5
          have cs6 := hbl.cell 6
          have fs7 := hbl.frozen 7
          have hblt := hbl.lt
          simp at cs0 cs1 cs2 cs3 cs4 cs5 cs6 cs7
          clear hbl
          have hcr : wr.cell? ⟨bo, oo + i, none⟩ = some (.slice r.a r.l.length r.c) := (HMD2.out.st.bel.cell (World.block_lt_of_cell? w _ HCR.out)).trans HCR.out
          by_cases hgo : k < r.l.length ∧ k < 10
          · obtain ⟨hk1, hk2⟩ := hgo
            have hk1' : (k : Int) < r.l.length := by omega
            have hk2' : (k : Int) < 10 := by omega
            obtain ⟨y0, hy0⟩ : ∃ y0, r.l[k]? = some y0 := ⟨_, List.getElem?_eq_getElem hk1⟩
            obtain ⟨br, or', ⟨cr', hv⟩, _, hcy⟩ := HRR.out.int hy0
            unfold RowV.v at hv
            injection hv with hv1 hv2 hv3
            rw [hv1] at hcr
            have hcy' : wr.cell? ⟨br, or' + k, none⟩ = some (.int .i64 y0) := (HMD2.out.st.bel.cell (World.block_lt_of_cell? w _ hcy)).trans hcy
            obtain ⟨T, hT0, hTl⟩ := and16 y0
            obtain ⟨q, hq⟩ : ∃ q, q = T % n := ⟨_, rfl⟩
            have hrem : (T : Int) % (n : Int) = (q : Int) := by rw [hq]; rfl
            have hn0 : 0 < n := by omega
            clear hq hy0 hcy hv1 hv2 hv3
            obtain ⟨G, hown, hGb, hup, _⟩ := (HMD2.out.st.alloc (.cells #[.int .i64 (if tame = true then (q : Int) else y0)] 3)).opens 1 rfl
            have HOwn := Lib.hid hown
            have HUP := Lib.hid hup
            clear hown hGb hup
            have hstep : ∀ (w5 : World) (a' : Option Addr) (k' c' : Nat) (u : Int), App G (wr.alloc (.cells #[.int .i64 (if tame = true then (q : Int) else y0)] 3)) w5 3 1 (.slice a6 m c6) (.slice a' k' c') m 1 k' (ints L) (ints [u]) →
                St w w5 ([blkA bs #[.slice none 0 0, .slice none 0 0, .slice none 0 0, .slice none 0 0, .bool false, .slice none 0 0, .slice none 0 0, .slice a6 m c6] 35, slA 3 1 (.slice a' k' c') k' (ints (L ++ [u]))] ++ MadeL (.slice a5 i c5) l) := by
              intro w5 a' k' c' u happ
              rw [ints_app]
              exact HUP.out w5 (slA 3 1 (.slice a' k' c') k' (ints L ++ ints [u])) happ.keep happ.own
            have HSTEP := Lib.hid hstep; clear hstep
            cases tame
            · simp only [Bool.false_eq_true, if_false] at HOwn HUP HSTEP
              go_wp2_with (at_builtin; refine wpList_app (P := Try.prog) slInt rfl _ _ rfl (S := G) (S2 := fun z => z = wr.heap.size) (n := m) (xs := ints L) (m := 1) (news := ints [y0]) rfl rfl ?hown ?hx ?hl ?h1 ?h2 ?h3 ?_)
              case hown => exact HOwn.out
              case hx => exact rd_one wr y0
              case hl => rfl
              case h1 => exact ints_one _
              case h2 => omega
              case h3 => unfold maxLen; omega
              rintro a' k' c' w5 happ
              have HNum := Lib.hid happ.num
              have HST5 := Lib.hid (HSTEP.out w5 a' k' c' y0 happ)
              clear happ
              have hbl := (HST5.out.blk 0 rfl)
              have ct7 := hbl.cell 7
              have ft7 := hbl.frozen 7
              simp at ct7
              clear hbl
              go_wp2_with fail
              go_roundg (10 - (k + 1))
              case measure => have := HGK.out; omega
              case rel => exact ⟨k + 1, k', a', c', L ++ [y0], by have := HGK.out; omega, by omega, by go_num, by rw [List.length_append, HLM.out, HNum.out]; rfl, by have := HNum.out; omega, ⟨HST5.out.write 0 rfl 7 (.slice a' k' c'), HMD2.out.af⟩⟩
            · simp only [if_true] at HOwn HUP HSTEP
              by_cases hqi : q = i
              · have hqi' : ((q : Int) == (i : Int)) = true := by simp; omega
                clear hqi
                go_wp2_with fail
                go_roundg (10 - (k + 1))
                case measure => have := HGK.out; omega
                case rel => exact ⟨k + 1, m, a6, c6, L, by have := HGK.out; omega, by omega, by go_num, HLM.out, by omega, HMD2.out⟩
              · have hqi' : ((q : Int) == (i : Int)) = false := by simp; omega
                clear hqi
                go_wp2_with (at_builtin; refine wpList_app (P := Try.prog) slInt rfl _ _ rfl (S := G) (S2 := fun z => z = wr.heap.size) (n := m) (xs := ints L) (m := 1) (news := ints [(q : Int)]) rfl rfl ?hown ?hx ?hl ?h1 ?h2 ?h3 ?_)
                case hown => exact HOwn.out
                case hx => exact rd_one wr q
                case hl => rfl
                case h1 => exact ints_one _
                case h2 => omega
                case h3 => unfold maxLen; omega
                rintro a' k' c' w5 happ
                have HNum := Lib.hid happ.num
                have HST5 := Lib.hid (HSTEP.out w5 a' k' c' q happ)
                clear happ
                have hbl := (HST5.out.blk 0 rfl)
                have ct7 := hbl.cell 7
                have ft7 := hbl.frozen 7
                simp at ct7
                clear hbl
                go_wp2_with fail
                go_roundg (10 - (k + 1))
                case measure => have := HGK.out; omega
                case rel => exact ⟨k + 1, k', a', c', L ++ [(q : Int)], by have := HGK.out; omega, by omega, by go_num, by rw [List.length_append, HLM.out, HNum.out]; rfl, by have := HNum.out; omega, ⟨HST5.out.write 0 rfl 7 (.slice a' k' c'), HMD2.out.af⟩⟩
          · have hx : ¬ (k : Int) < r.l.length ∨ ((k : Int) < r.l.length ∧ ¬ (k : Int) < 10) := by omega
            clear hgo
            obtain ⟨G, hown, hGb, hup, _⟩ := (HMD2.out.st.alloc (.cells #[.slice none 0 0, .slice none 0 0, .slice none 0 0, .slice none 0 0, .bool false, .slice none 0 0, .slice none 0 0, .slice a6 m c6] 35)).opens 2 rfl
            have HOwn := Lib.hid hown
            have HUP := Lib.hid hup
            clear hown hGb hup
            have HSYS : Hid (Rd (fun z => z = wr.heap.size) (wr.alloc (.cells #[.slice none 0 0, .slice none 0 0, .slice none 0 0, .slice none 0 0, .bool false, .slice none 0 0, .slice none 0 0, .slice a6 m c6] 35)) (.slice (some ⟨wr.heap.size, 0, none⟩) 1 1) 1 ([sysOf ⟨a6, m, c6⟩ L].flatMap SysV.cells)) := Lib.hid (by
              have := (Own.lit (S := fun z => z = wr.heap.size) wr 35 8 1 #[.slice none 0 0, .slice none 0 0, .slice none 0 0, .slice none 0 0, .bool false, .slice none 0 0, .slice none 0 0, .slice a6 m c6] (by decide) rfl rfl).rd
              simpa [sysOf, SysV.cells, SlV.v, nilV] using this)
            rcases hx with hx | ⟨hx1, hx2⟩
            all_goals
              go_wp2_with (at_builtin; refine wpList_app (P := Try.prog) slSys rfl _ _ rfl (S := G) (S2 := fun z => z = wr.heap.size) (n := i) (xs := l.flatMap SysV.cells) (m := 1) (news := [sysOf ⟨a6, m, c6⟩ L].flatMap SysV.cells) rfl rfl ?_ ?_ ?_ ?_ ?_ ?_ ?_)
              · have h := HOwn.out; rw [HL.out] at h; exact h
              · exact HSYS.out
              · rfl
              · exact fun u hu => flatSys_one [sysOf ⟨a6, m, c6⟩ L] u (by simpa using hu)
              · omega
              · unfold maxLen; omega
              rintro a' k' c' w5 happ
              have HNum := Lib.hid happ.num
              have HST5 := Lib.hid (HUP.out w5 (slA 35 8 (.slice a' k' c') k' (l.flatMap SysV.cells ++ [sysOf ⟨a6, m, c6⟩ L].flatMap SysV.cells)) happ.keep happ.own)
              clear happ
              go_wp2_with fail
              go_roundg (n - (i + 1))
              case measure => have := HG.out; omega
              case rel =>
                have e1 : k' = i + 1 := HNum.out
                subst e1
                exact ⟨i + 1, l ++ [sysOf ⟨a6, m, c6⟩ L], a', c', by have := HG.out; omega, by go_num, by simp [HL.out], rfl, made_step HST5.out HL.out HLM.out HMD.out.af⟩
      · obtain rfl : n = i := by omega
        have hR := made_ret HMD.out HL.out rfl
        have HR := Lib.hid hR; clear hR
        go_wp2_with fail
        go_ret
        exact HR.out
end Go.Proofs.Ytbigknmeooaidaa
