/-
  The law's own 'Systems': systems that wait for others, raw or made to be of those that are there.
-/
import Derived.Test.YtbigknmeooaidaaSysE
namespace Go.Proofs.Ytbigknmeooaidaa
open Go Go.RowKit
set_option linter.unusedVariables false
set_option linter.unusedSimpArgs false

/-- The systems are handed back. -/
def RetSysM (w : World) (n : Nat) (tame : Bool) (en : Ending) (w' : World) : Prop :=
  ∃ (a : Option Addr) (c : Nat) (l : List SysV), en = .returned (.slice a l.length c) ∧ St w w' (MadeL (.slice a l.length c) l) ∧ l.length = n ∧ (∀ y, y ∈ l → y = sysOf y.af y.aft ∧ y.af.n = y.aft.length ∧ y.aft.length ≤ 10) ∧
    (tame = true → ∀ (p : Nat) (y : SysV), l[p]? = some y → ∀ x, x ∈ y.aft → 0 ≤ x ∧ x < n ∧ x ≠ p)

def LoopT1 (w : World) (n : Nat) (tame : Bool) (g : Nat) (v5 v7 : Value) (wr : World) : Prop :=
  ∃ (i : Nat) (l : List SysV) (a : Option Addr) (c : Nat), g + i = n ∧ v7 = .int .i64 i ∧ l.length = i ∧ v5 = .slice a i c ∧ MadeS w wr (.slice a i c) l [] ∧ (∀ y, y ∈ l → y = sysOf y.af y.aft ∧ y.aft.length ≤ 10) ∧ (tame = true → ∀ (p : Nat) (y : SysV), l[p]? = some y → ∀ x, x ∈ y.aft → 0 ≤ x ∧ x < n ∧ x ≠ p)
/-- The system that is being made lies in a block of its own; what it waits for is a row of its own. -/
def LoopT2 (w : World) (v5 : Value) (l : List SysV) (bs n i : Nat) (tame : Bool) (g : Nat) (v9 : Value) (wr : World) : Prop :=
  ∃ (k m : Nat) (a : Option Addr) (c : Nat) (L : List Int), g + k = 10 ∧ k ≤ 10 ∧ v9 = .int .i64 k ∧ L.length = m ∧ m ≤ k ∧ MadeS w wr v5 l [blkA bs #[.slice none 0 0, .slice none 0 0, .slice none 0 0, .slice none 0 0, .bool false, .slice none 0 0, .slice none 0 0, .slice a m c] 35, slA 3 1 (.slice a m c) m (ints L)] ∧ (tame = true → ∀ x, x ∈ L → 0 ≤ x ∧ x < n ∧ x ≠ i)

set_option maxRecDepth 100000 in
set_option maxHeartbeats 4000000 in
theorem systems_made (v : Value) (rs : List RowV) (tame : Bool) (w : World) (S : Nat → Prop) (h : RdRows S w v rs) (hS : ∀ i, S i → i < w.heap.size) :
    Calls Try.prog 32 #[v, .bool tame] w (RetSysM w (min rs.length 66) tame) := by
  obtain ⟨a, c, rfl, g1, g2, g3, g4⟩ := id h.rd
  have hlen : rs.length ≤ 9223372036854775807 := by unfold maxLen at g2; omega
  clear g1 g2 g3 g4
  have H := Lib.hid h; clear h
  obtain ⟨n, hn⟩ : ∃ n, n = min rs.length 66 := ⟨_, rfl⟩
  rw [← hn]
  go_enter Try.func32, Try.ntmps32
  go_upto_region 2 with (fail)
  go_cut [6] (fun v6 wx => v6 = .int .i64 (n : Int) ∧ w = wx)
  case first =>
    by_cases h20 : 66 < rs.length
    · have h20' : (66 : Int) < rs.length := by omega
      have e : n = 66 := by omega
      subst e
      clear hn
      go_wp2_with fail
      go_meet
      case rel => exact ⟨rfl, rfl⟩
    · have h20' : ¬ (66 : Int) < rs.length := by omega
      obtain rfl : n = rs.length := by omega
      clear hn
      go_wp2_with fail
      go_meet
      case rel => exact ⟨rfl, rfl⟩
  case rest =>
    obtain ⟨rfl, rfl⟩ := hcut
    have hnl : n ≤ rs.length := by omega
    have hn66 : n ≤ 66 := by omega
    clear hn
    go_wp2_with fail
    go_loopg [5, 7] n (fun g v5 v7 wr => LoopT1 w n tame g v5 v7 wr)
    case atStart => exact ⟨0, [], none, 0, rfl, rfl, rfl, rfl, ⟨(St.start w).add (Keep.refl _ _) (A := slA 35 8 (.slice none 0 0) 0 []) (Own.nil _ _ _ _), by simp⟩, by simp, by simp⟩
    case round =>
      obtain ⟨i, l, a5, c5, hg, rfl, hl, rfl, hmade, hshp, htm⟩ := hrel
      have HSHP := Lib.hid hshp; clear hshp
      have HTM := Lib.hid htm; clear htm
      have hin : i ≤ n := by omega
      have HG := Lib.hid hg; clear hg
      have HL := Lib.hid hl; clear hl
      have HMD := Lib.hid hmade; clear hmade
      by_cases hlt : i < n
      · obtain ⟨r, hr⟩ : ∃ r, rs[i]? = some r := ⟨_, List.getElem?_eq_getElem (by omega)⟩
        obtain ⟨bo, oo, rfl, _, hcr, hrr⟩ := H.out.get hr
        have HCR := Lib.hid hcr; clear hcr
        have HRR := Lib.hid hrr; clear hrr hr
        have hrl : r.l.length ≤ 9223372036854775807 := by
          obtain ⟨_, _, e, e1, e2, _⟩ := HRR.out
          unfold maxLen at e2
          omega
        have hirs : i < rs.length := by omega
        obtain ⟨bs, hbs⟩ : ∃ bs, wr.heap.size = bs := ⟨_, rfl⟩
        have hmd2 : MadeS w (wr.alloc (.cells #[.slice none 0 0, .slice none 0 0, .slice none 0 0, .slice none 0 0, .bool false, .slice none 0 0, .slice none 0 0, .slice none 0 0] 35)) (.slice a5 i c5) l [blkA bs #[.slice none 0 0, .slice none 0 0, .slice none 0 0, .slice none 0 0, .bool false, .slice none 0 0, .slice none 0 0, .slice none 0 0] 35, slA 3 1 (.slice none 0 0) 0 (ints [])] := by
          have h1 := (HMD.out.st.box #[.slice none 0 0, .slice none 0 0, .slice none 0 0, .slice none 0 0, .bool false, .slice none 0 0, .slice none 0 0, .slice none 0 0] 35).add (Keep.refl _ _) (A := slA 3 1 (.slice none 0 0) 0 (ints [])) (Own.nil _ _ _ _)
          rw [hbs] at h1
          exact ⟨St.front2 h1, HMD.out.af⟩
        have HM2 := Lib.hid hmd2; clear hmd2
        go_wp2_with fail
        go_loopg [9] 10 (fun g v9 wr => LoopT2 w (.slice a5 i c5) l bs n i tame g v9 wr)
        case atStart => exact ⟨0, 0, none, 0, [], rfl, by omega, rfl, rfl, by omega, HM2.out, by simp⟩
        case round =>
          obtain ⟨k, m, a6, c6, L, hg, hk10, rfl, hLm, hmk, hmade, htl⟩ := hrel
          have HTL := Lib.hid htl; clear htl
          have HGK := Lib.hid hg; clear hg HM2
          have HLM := Lib.hid hLm; clear hLm
          have HMD2 := Lib.hid hmade; clear hmade
          have hbl := (HMD2.out.st.blk 0 rfl)
          have cs7 := hbl.cell 7
          have cs0 := hbl.cell 0
          have cs1 := hbl.cell 1
          have cs2 := hbl.cell 2
          have cs3 := hbl.cell 3
          have cs4 := hbl.cell 4
          have cs5 := hbl.cell 5
          have cs6 := hbl.cell 6
          have fs7 := hbl.frozen 7
          have hblt := hbl.lt
          simp at cs0 cs1 cs2 cs3 cs4 cs5 cs6 cs7
          clear hbl
          have hcr : wr.cell? ⟨bo, oo + i, none⟩ = some (.slice r.a r.l.length r.c) := (HMD2.out.st.bel.cell (World.block_lt_of_cell? w _ HCR.out)).trans HCR.out
          by_cases hgo : k < r.l.length ∧ k < 10
          · obtain ⟨hk1, hk2⟩ := hgo
            have hk1' : (k : Int) < r.l.length := by omega
            have hk2' : (k : Int) < 10 := by omega
            obtain ⟨y0, hy0⟩ : ∃ y0, r.l[k]? = some y0 := ⟨_, List.getElem?_eq_getElem hk1⟩
            obtain ⟨br, or', ⟨cr', hv⟩, _, hcy⟩ := HRR.out.int hy0
            unfold RowV.v at hv
            injection hv with hv1 hv2 hv3
            rw [hv1] at hcr
            have hcy' : wr.cell? ⟨br, or' + k, none⟩ = some (.int .i64 y0) := (HMD2.out.st.bel.cell (World.block_lt_of_cell? w _ hcy)).trans hcy
            obtain ⟨T, hT0, hTl⟩ := and16 y0
            obtain ⟨q, hq⟩ : ∃ q, q = T % n := ⟨_, rfl⟩
            have hrem : (T : Int) % (n : Int) = (q : Int) := by rw [hq]; rfl
            have hn0 : 0 < n := by omega
            have HQN := Lib.hid (show q < n by rw [hq]; exact Nat.mod_lt _ hn0)
            clear hq hy0 hcy hv1 hv2 hv3
            obtain ⟨G, hown, hGb, hup, _⟩ := (HMD2.out.st.alloc (.cells #[.int .i64 (if tame = true then (q : Int) else y0)] 3)).opens 1 rfl
            have HOwn := Lib.hid hown
            have HUP := Lib.hid hup
            clear hown hGb hup
            have hstep : ∀ (w5 : World) (a' : Option Addr) (k' c' : Nat) (u : Int), App G (wr.alloc (.cells #[.int .i64 (if tame = true then (q : Int) else y0)] 3)) w5 3 1 (.slice a6 m c6) (.slice a' k' c') m 1 k' (ints L) (ints [u]) →
                St w w5 ([blkA bs #[.slice none 0 0, .slice none 0 0, .slice none 0 0, .slice none 0 0, .bool false, .slice none 0 0, .slice none 0 0, .slice a6 m c6] 35, slA 3 1 (.slice a' k' c') k' (ints (L ++ [u]))] ++ MadeL (.slice a5 i c5) l) := by
              intro w5 a' k' c' u happ
              rw [ints_app]
              exact HUP.out w5 (slA 3 1 (.slice a' k' c') k' (ints L ++ ints [u])) happ.keep happ.own
            have HSTEP := Lib.hid hstep; clear hstep
            cases tame
            · simp only [Bool.false_eq_true, if_false] at HOwn HUP HSTEP
              go_wp2_with (at_builtin; refine wpList_app (P := Try.prog) slInt rfl _ _ rfl (S := G) (S2 := fun z => z = wr.heap.size) (n := m) (xs := ints L) (m := 1) (news := ints [y0]) rfl rfl ?hown ?hx ?hl ?h1 ?h2 ?h3 ?_)
              case hown => exact HOwn.out
              case hx => exact rd_one wr y0
              case hl => rfl
              case h1 => exact ints_one _
              case h2 => omega
              case h3 => unfold maxLen; omega
              rintro a' k' c' w5 happ
              have HNum := Lib.hid happ.num
              have HST5 := Lib.hid (HSTEP.out w5 a' k' c' y0 happ)
              clear happ
              have hbl := (HST5.out.blk 0 rfl)
              have ct7 := hbl.cell 7
              have ft7 := hbl.frozen 7
              simp at ct7
              clear hbl
              go_wp2_with fail
              go_roundg (10 - (k + 1))
              case measure => have := HGK.out; omega
              case rel => exact ⟨k + 1, k', a', c', L ++ [y0], by have := HGK.out; omega, by omega, by go_num, by rw [List.length_append, HLM.out, HNum.out]; rfl, by have := HNum.out; omega, ⟨HST5.out.write 0 rfl 7 (.slice a' k' c'), HMD2.out.af⟩, by simp⟩
            · simp only [if_true] at HOwn HUP HSTEP
              by_cases hqi : q = i
              · have hqi' : ((q : Int) == (i : Int)) = true := by simp; omega
                clear hqi
                go_wp2_with fail
                go_roundg (10 - (k + 1))
                case measure => have := HGK.out; omega
                case rel => exact ⟨k + 1, m, a6, c6, L, by have := HGK.out; omega, by omega, by go_num, HLM.out, by omega, HMD2.out, fun _ => HTL.out (by trivial)⟩
              · have hqi' : ((q : Int) == (i : Int)) = false := by simp; omega
                go_wp2_with (at_builtin; refine wpList_app (P := Try.prog) slInt rfl _ _ rfl (S := G) (S2 := fun z => z = wr.heap.size) (n := m) (xs := ints L) (m := 1) (news := ints [(q : Int)]) rfl rfl ?hown ?hx ?hl ?h1 ?h2 ?h3 ?_)
                case hown => exact HOwn.out
                case hx => exact rd_one wr q
                case hl => rfl
                case h1 => exact ints_one _
                case h2 => omega
                case h3 => unfold maxLen; omega
                rintro a' k' c' w5 happ
                have HNum := Lib.hid happ.num
                have HST5 := Lib.hid (HSTEP.out w5 a' k' c' q happ)
                clear happ
                have hbl := (HST5.out.blk 0 rfl)
                have ct7 := hbl.cell 7
                have ft7 := hbl.frozen 7
                simp at ct7
                clear hbl
                go_wp2_with fail
                go_roundg (10 - (k + 1))
                case measure => have := HGK.out; omega
                case rel => exact ⟨k + 1, k', a', c', L ++ [(q : Int)], by have := HGK.out; omega, by omega, by go_num, by rw [List.length_append, HLM.out, HNum.out]; rfl, by have := HNum.out; omega, ⟨HST5.out.write 0 rfl 7 (.slice a' k' c'), HMD2.out.af⟩, fun ht x hx => by rcases List.mem_append.1 hx with hx | hx; exact HTL.out (by trivial) x hx; (simp at hx; subst hx; exact ⟨by omega, by have := HQN.out; omega, by omega⟩)⟩
          · have hx : ¬ (k : Int) < r.l.length ∨ ((k : Int) < r.l.length ∧ ¬ (k : Int) < 10) := by omega
            clear hgo
            obtain ⟨G, hown, hGb, hup, _⟩ := (HMD2.out.st.alloc (.cells #[.slice none 0 0, .slice none 0 0, .slice none 0 0, .slice none 0 0, .bool false, .slice none 0 0, .slice none 0 0, .slice a6 m c6] 35)).opens 2 rfl
            have HOwn := Lib.hid hown
            have HUP := Lib.hid hup
            clear hown hGb hup
            have HSYS : Hid (Rd (fun z => z = wr.heap.size) (wr.alloc (.cells #[.slice none 0 0, .slice none 0 0, .slice none 0 0, .slice none 0 0, .bool false, .slice none 0 0, .slice none 0 0, .slice a6 m c6] 35)) (.slice (some ⟨wr.heap.size, 0, none⟩) 1 1) 1 ([sysOf ⟨a6, m, c6⟩ L].flatMap SysV.cells)) := Lib.hid (by
              have := (Own.lit (S := fun z => z = wr.heap.size) wr 35 8 1 #[.slice none 0 0, .slice none 0 0, .slice none 0 0, .slice none 0 0, .bool false, .slice none 0 0, .slice none 0 0, .slice a6 m c6] (by decide) rfl rfl).rd
              simpa [sysOf, SysV.cells, SlV.v, nilV] using this)
            rcases hx with hx | ⟨hx1, hx2⟩
            all_goals
              go_wp2_with (at_builtin; refine wpList_app (P := Try.prog) slSys rfl _ _ rfl (S := G) (S2 := fun z => z = wr.heap.size) (n := i) (xs := l.flatMap SysV.cells) (m := 1) (news := [sysOf ⟨a6, m, c6⟩ L].flatMap SysV.cells) rfl rfl ?_ ?_ ?_ ?_ ?_ ?_ ?_)
              · have h := HOwn.out; rw [HL.out] at h; exact h
              · exact HSYS.out
              · rfl
              · exact fun u hu => flatSys_one [sysOf ⟨a6, m, c6⟩ L] u (by simpa using hu)
              · omega
              · unfold maxLen; omega
              rintro a' k' c' w5 happ
              have HNum := Lib.hid happ.num
              have HST5 := Lib.hid (HUP.out w5 (slA 35 8 (.slice a' k' c') k' (l.flatMap SysV.cells ++ [sysOf ⟨a6, m, c6⟩ L].flatMap SysV.cells)) happ.keep happ.own)
              clear happ
              go_wp2_with fail
              go_roundg (n - (i + 1))
              case measure => have := HG.out; omega
              case rel =>
                have e1 : k' = i + 1 := HNum.out
                subst e1
                exact ⟨i + 1, l ++ [sysOf ⟨a6, m, c6⟩ L], a', c', by have := HG.out; omega, by go_num, by simp [HL.out], rfl, made_step HST5.out HL.out HLM.out HMD.out.af, fun y hy => by rcases List.mem_append.1 hy with hy | hy; exact HSHP.out y hy; (simp at hy; subst hy; exact ⟨rfl, by have h1 := HLM.out; show L.length ≤ 10; omega⟩), fun ht p y hy x hx => by
                  have hpl := (List.getElem?_eq_some_iff.1 hy).1
                  by_cases hp : p < l.length
                  · rw [List.getElem?_append_left hp] at hy; exact HTM.out ht p y hy x hx
                  · have hpe : p = l.length := by simp at hpl; omega
                    subst hpe
                    rw [List.getElem?_append_right (Nat.le_refl _), Nat.sub_self] at hy
                    simp at hy; subst hy
                    have := HTL.out (by first | exact ht | trivial) x hx
                    rw [HL.out]
                    exact this⟩
      · obtain rfl : n = i := by omega
        have hm := HL.out
        have HR := Lib.hid (show St w wr (MadeL (.slice a5 l.length c5) l) by rw [hm]; exact HMD.out.st)
        go_wp2_with fail
        go_ret
        exact ⟨a5, c5, l, by rw [hm]; rfl, HR.out, hm, fun y hy => ⟨(HSHP.out y hy).1, HMD.out.af y hy, (HSHP.out y hy).2⟩, HTM.out⟩
end Go.Proofs.Ytbigknmeooaidaa
