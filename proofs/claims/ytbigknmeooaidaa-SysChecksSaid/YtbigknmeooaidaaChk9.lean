/-
  The package plan: the components of some kinds of columns.
-/
import Derived.Test.YtbigknmeooaidaaChk7
import Derived.Test.YtbigknmeooaidaaChk8
namespace Go.Proofs.Ytbigknmeooaidaa
open Go Go.RowKit
set_option linter.unusedVariables false
set_option linter.unusedSimpArgs false

set_option maxHeartbeats 400000 in
theorem clip_ints (a : Option Addr) (n c : Nat) (hn : n ≤ c) (w : World) :
    Calls Try.prog 112 #[.slice a n c] w (fun e w' => e = .returned (.slice a n n) ∧ w = w') := by
  go_enter Try.func112, Try.ntmps112
  go_wp2_with fail
  go_ret
  exact ⟨rfl, rfl⟩
theorem Rd.clip {S : Nat → Prop} {w : World} {a : Option Addr} {n c : Nat} {xs : List Value} (h : Rd S w (.slice a n c) n xs) : Rd S w (.slice a n n) n xs := by
  obtain ⟨a', c', he, h1, h2, h3, h4⟩ := h
  injection he with e1 e2 e3
  subst e1; subst e3
  exact ⟨a, n, rfl, Nat.le_refl _, by omega, fun hn => ⟨(h3 hn).1, (h3 hn).1⟩, h4⟩

/-- Those whose kind is told, as they stand. -/
def compsF (kinds : List Int) (l : List ColV) : List Int := (l.filter (fun c => hasL kinds c.kind)).map ColV.comp
theorem compsF_mem {kinds : List Int} {l : List ColV} {x : Int} : x ∈ compsF kinds l ↔ ∃ c, c ∈ l ∧ c.kind ∈ kinds ∧ c.comp = x := by
  unfold compsF
  simp only [List.mem_map, List.mem_filter, hasL_iff]
  exact ⟨fun ⟨c, ⟨h1, h2⟩, h3⟩ => ⟨c, h1, h2, h3⟩, fun ⟨c, h1, h2, h3⟩ => ⟨c, ⟨h1, h2⟩, h3⟩⟩
def RetComps (w : World) (M : List Int) (en : Ending) (w' : World) : Prop :=
  ∃ (S : Nat → Prop) (a : Option Addr) (c : Nat) (L : List Int), en = .returned (.slice a L.length c) ∧ (∀ x, x ∈ L ↔ x ∈ M) ∧ Rd S w' (.slice a L.length c) L.length (ints L) ∧ Keep w w' Nope
def LoopCm (w : World) (kinds : List Int) (l : List ColV) (g : Nat) (v5 v10 : Value) (wr : World) : Prop :=
  ∃ (k n : Nat) (a : Option Addr) (c : Nat), g + k = l.length ∧ v10 = .int .i64 k ∧ v5 = .slice a n c ∧ (compsF kinds (l.take k)).length = n ∧ St w wr [slA 3 1 (.slice a n c) n (ints (compsF kinds (l.take k)))]

set_option maxHeartbeats 2000000 in
theorem plan_comps (v v2 : Value) (l : List ColV) (kinds : List Int) (w : World) (S S2 : Nat → Prop) (h : RdCols S w v l) (h2 : Rd S2 w v2 kinds.length (ints kinds)) (hl : l.length ≤ 1000) :
    Calls Try.prog 102 #[v, v2] w (RetComps w (compsF kinds l)) := by
  obtain ⟨a, c, rfl, g1, g2, g3, g4⟩ := id h
  clear g1 g2 g3 g4
  obtain ⟨a2, c2, rfl, g1, g2, g3, g4⟩ := id h2
  clear g1 g2 g3 g4
  have H := Lib.hid h; clear h
  have H2 := Lib.hid h2; clear h2
  go_enter Try.func102, Try.ntmps102
  go_wp2_with fail
  go_loopg [5, 10] l.length (fun g v5 v10 wr => LoopCm w kinds l g v5 v10 wr)
  case atStart => exact ⟨0, 0, none, 0, rfl, rfl, rfl, rfl, (St.start w).add (Keep.refl _ _) (A := slA 3 1 (.slice none 0 0) 0 (ints [])) (Own.nil _ _ _ _)⟩
  case round =>
    obtain ⟨k, n, ao, co, hk, rfl, rfl, hn, hst⟩ := hrel
    have hkl : k ≤ l.length := by omega
    have HK := Lib.hid hk; clear hk
    have HN := Lib.hid hn; clear hn
    have HST := Lib.hid hst; clear hst
    have HKP := Lib.hid (Keep.ofSt HST.out)
    by_cases hlt : k < l.length
    · obtain ⟨x, hx⟩ : ∃ x, l[k]? = some x := ⟨_, List.getElem?_eq_getElem hlt⟩
      obtain ⟨bo, oo, rfl, _, hc⟩ := (H.out.keep HKP.out (fun _ _ f => f)).elem (cells := ColV.cells) (size := 2) (fun _ => rfl) (by decide) hx
      have c0 := hc 0 (by decide)
      have c1 := hc 1 (by decide)
      simp only [ColV.cells, List.getElem?_cons_zero, List.getElem?_cons_succ, Nat.add_zero] at c0 c1
      clear hc
      have hki : (k : Int) < l.length := by omega
      have hkd : decide ((k : Int) < l.length) = true := decide_eq_true hki
      have htake : l.take (k + 1) = l.take k ++ [x] := by rw [List.take_add_one, hx]; rfl
      have hcs : compsF kinds (l.take (k + 1)) = compsF kinds (l.take k) ++ (if hasL kinds x.kind then [x.comp] else []) := by
        rw [htake]
        unfold compsF
        rw [List.filter_append, List.map_append]
        congr 1
        cases hh : hasL kinds x.kind <;> simp [hh]
      have hnk : n ≤ k := by
        have h1 := HN.out
        unfold compsF at h1
        rw [List.length_map] at h1
        have h3 := List.length_filter_le (fun c : ColV => hasL kinds c.kind) (l.take k)
        rw [List.length_take] at h3
        omega
      have HCS := Lib.hid hcs
      obtain ⟨xk, xm⟩ := x
      simp only at c0 c1 HCS
      have hCV := fun wq (hk : Keep w wq Nope) => contains_val xk _ kinds wq S2 (H2.out.keep hk (fun _ _ f => f))
      obtain ⟨b, hb⟩ : ∃ b, hasL kinds xk = b := ⟨_, rfl⟩
      rw [hb] at HCS
      simp only [hb] at hCV
      have HCV := Lib.hid hCV
      clear hb hCV hcs htake hx
      go_upto_region 5 with (fail)
      obtain ⟨w1, hw1⟩ : ∃ w1, w1 = wr.alloc (.cells #[.int .i64 xk, .int .i64 xm] 82) := ⟨_, rfl⟩
      have hk1 : Keep wr w1 Nope := by rw [hw1]; exact (Keep.refl wr Nope).alloc _
      have hba : Blk w1 wr.heap.size #[.int .i64 xk, .int .i64 xm] 82 := by rw [hw1]; exact Blk.new wr _ _
      rw [← hw1]
      have a0 := hba.cell 0
      have a1 := hba.cell 1
      simp at a0 a1
      have hst1 := HST.out.keep hk1
      have HST1 := Lib.hid hst1
      have HK1 := Lib.hid (HKP.out.trans hk1 (fun _ f => f.elim))
      clear hw1 hk1 hba c0 c1 HST hst1
      cases b
      · go_wp2_with (go_at_call 56; refine (HCV.out _ HK1.out).mono ?_; rintro e w7 ⟨rfl, rfl⟩)
        go_roundg (l.length - (k + 1))
        case measure => have := HK.out; omega
        case rel => exact ⟨k + 1, n, ao, co, by omega, by go_num, rfl, by rw [HCS.out]; simpa using HN.out, by rw [HCS.out]; simpa using HST1.out⟩
      · obtain ⟨G, hown, _, hup, _⟩ := HST1.out.opens 0 rfl
        have HOwn := Lib.hid (show Own G w1 3 1 (.slice ao n co) n (ints (compsF kinds (l.take k))) from hown)
        have HUP := Lib.hid hup
        clear hown hup
        go_upto_region 6 with (go_at_call 56; refine (HCV.out _ HK1.out).mono ?_; rintro e w7 ⟨rfl, rfl⟩)
        go_wp2_with (at_builtin; refine wpList_app (P := Try.prog) slInt rfl _ _ rfl (S := G) (S2 := fun z => z = w1.heap.size) (n := n) (xs := ints (compsF kinds (l.take k))) (m := 1) (news := ints [xm]) rfl rfl ?_ ?_ ?_ ?_ ?_ ?_ ?_)
        · exact HOwn.out.keep (T := Nope) ((Keep.refl w1 Nope).alloc _) (fun _ _ f => f)
        · exact rd_one w1 xm
        · rfl
        · exact ints_one _
        · omega
        · unfold maxLen; omega
        rintro a' k' c' w5 happ
        obtain ⟨z1, z2⟩ := app_up (wr := w1) ((Keep.refl w1 Nope).alloc _) happ
        obtain rfl := happ.num
        have h5 := HUP.out w5 _ z1 z2
        rw [← ints_app] at h5
        have H5 := Lib.hid (show St w w5 [slA 3 1 (.slice a' (n + 1) c') (n + 1) (ints (compsF kinds (l.take k) ++ [xm]))] from h5)
        clear happ z1 z2 h5
        go_wp2_with fail
        go_roundg (l.length - (k + 1))
        case measure => have := HK.out; omega
        case rel => exact ⟨k + 1, n + 1, a', c', by omega, by go_num, rfl, by rw [HCS.out]; have h1 := HN.out; simp [h1], by rw [HCS.out]; exact H5.out⟩
    · obtain rfl : k = l.length := by omega
      have hnl : n ≤ 1000 := by
        have h1 := HN.out
        unfold compsF at h1
        rw [List.length_map] at h1
        have h3 := List.length_filter_le (fun c : ColV => hasL kinds c.kind) (l.take l.length)
        rw [List.length_take] at h3
        omega
      rw [List.take_length] at HN HST
      have HS := Lib.hid (sort_int HST.out 0 rfl HN.out (by omega))
      go_wp2_with (go_at_call 40; refine HS.out.mono ?_; rintro e w1 ⟨rfl, h1⟩; have HC := Lib.hid (compact_int (xs := (compsF kinds l).mergeSort fun x y => decide (x ≤ y)) h1 0 rfl (by rw [List.length_mergeSort]; exact HN.out)); clear h1)
      · refine HC.out.mono ?_
        rintro e w2 ⟨m, hm, rfl, hst2⟩
        have hcap := (hst2.rd 0 rfl).choose_spec.1.cap
        unfold maxLen at hcap
        have HM := Lib.hid hm
        have H2S := Lib.hid hst2
        clear hm hst2 HC HS
        go_wp2_with (go_at_call 112; refine (clip_ints _ _ _ hcap.1 _).mono ?_; rintro e w3 ⟨rfl, rfl⟩)
        go_ret
        obtain ⟨G, _, hrd, _⟩ := H2S.out.rd 0 rfl
        obtain rfl := HM.out
        exact ⟨G, ao, _, _, rfl, fun x => by rw [compact_mem, List.mem_mergeSort], Rd.clip hrd, Keep.ofSt H2S.out⟩

set_option maxHeartbeats 400000 in
theorem plan_Writes (v : Value) (l : List ColV) (w : World) (S : Nat → Prop) (h : RdCols S w v l) (hl : l.length ≤ 1000) :
    Calls Try.prog 73 #[v] w (RetComps w (compsF [2] l)) := by
  have hk := (Keep.refl w Nope).alloc (.cells #[.int .i64 2] 3)
  have HC := Lib.hid (plan_comps v _ l [2] _ S _ (h.keep hk (fun _ _ f => f)) (rd_one w 2) hl)
  obtain ⟨a, c, rfl, _⟩ := id h
  have HK := Lib.hid hk
  clear h hk
  go_enter Try.func73, Try.ntmps73
  go_wp2_with fail
  refine HC.out.mono ?_
  rintro e w' ⟨S3, a3, c3, L, rfl, hm, hr, hk'⟩
  have HM := Lib.hid hm
  have HR := Lib.hid hr
  have HK' := Lib.hid (HK.out.trans hk' (fun _ f => f.elim))
  clear hm hr hk'
  go_wp2_with fail
  go_ret
  exact ⟨S3, a3, c3, L, rfl, HM.out, HR.out, HK'.out⟩
set_option maxHeartbeats 400000 in
theorem plan_Reads (v : Value) (l : List ColV) (w : World) (S : Nat → Prop) (h : RdCols S w v l) (hl : l.length ≤ 1000) :
    Calls Try.prog 74 #[v] w (RetComps w (compsF [1, 3, 4] l)) := by
  have hk := (Keep.refl w Nope).alloc (.cells #[.int .i64 1, .int .i64 3, .int .i64 4] 3)
  have HC := Lib.hid (plan_comps v _ l [1, 3, 4] _ S (fun i => i = w.heap.size) (h.keep hk (fun _ _ f => f)) (Own.lit (S := fun i => i = w.heap.size) w 3 1 3 #[.int .i64 1, .int .i64 3, .int .i64 4] (by decide) rfl rfl).rd hl)
  obtain ⟨a, c, rfl, _⟩ := id h
  have HK := Lib.hid hk
  clear h hk
  go_enter Try.func74, Try.ntmps74
  go_wp2_with fail
  refine HC.out.mono ?_
  rintro e w' ⟨S3, a3, c3, L, rfl, hm, hr, hk'⟩
  have HM := Lib.hid hm
  have HR := Lib.hid hr
  have HK' := Lib.hid (HK.out.trans hk' (fun _ f => f.elim))
  clear hm hr hk'
  go_wp2_with fail
  go_ret
  exact ⟨S3, a3, c3, L, rfl, HM.out, HR.out, HK'.out⟩
end Go.Proofs.Ytbigknmeooaidaa
