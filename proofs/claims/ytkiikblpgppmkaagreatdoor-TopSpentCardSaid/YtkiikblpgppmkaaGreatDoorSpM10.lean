/-
  The package alloc: Merge; The package alloc: New, Mask; Where an index is looked for first: the program's Home and the document's.
-/
import Derived.Test.YtkiikblpgppmkaaGreatDoorSpM09
import Derived.Test.YtkiikblpgppmkaaGreatDoorProg
import Derived.Test.YtkiikblpgppmkaaGreatDoorSpM01
namespace Go.Proofs.YtkiikblpgppmkaaGreatDoor
open Go Go.RowKit
set_option linter.unusedVariables false
set_option linter.unusedSimpArgs false

/-- Some of the raised are live. -/
def AlS.mrg (a : AlS) (l : List Nat) : AlS := { a with live := l.foldl addW a.live }
theorem AlS.Ok.mrg {a : AlS} (h : a.Ok) {l : List Nat} (hl : ∀ k, k ∈ l → k < a.gens.length) : (a.mrg l).Ok := by
  refine ⟨h.len, h.len1, h.free, fun j hj => ?_, h.raised, h.top, h.gens, h.room⟩
  rw [show (a.mrg l).live = l.foldl addW a.live from rfl, foldl_add_bit] at hj
  simp only [Bool.or_eq_true, decide_eq_true_eq] at hj
  rcases hj with hj | hj
  · exact h.live j hj
  · exact hl j hj
def MrgL (b i : Nat) (a : AlS) (p : AlB) (L : List Asr) (v : Value) (n : Nat) (l : List HdV) : List Asr :=
  slA 45 2 v n (flatHd l) :: (alL b a p ++ L.set i empA)
def LoopMrg (w0 : World) (b i : Nat) (a : AlS) (p : AlB) (L : List Asr) (v : Value) (n : Nat) (g : Nat) (v15 : Value) (wr : World) : Prop :=
  ∃ k : Nat, g + k = n ∧ v15 = .int .i64 (k : Nat) ∧ St w0 wr (MrgL b i (a.mrg ((listW a.raised).take k)) p L v n ((listW a.raised).map a.hd))
theorem mrg_last {w0 w : World} {b i : Nat} {a : AlS} {p : AlB} {L : List Asr} {v : Value} {n : Nat} {l : List HdV} (hi : i < L.length) (H : St w0 w (MrgL b i a p L v n l)) : St w0 w (L.set i (alA b a) ++ [slA 45 2 v n (flatHd l)]) := by
  refine St.exJoin1 (alL b a) p i hi ?_
  exact St.last H

set_option maxHeartbeats 1000000 in
theorem al_merge {w0 w : World} {L : List Asr} {b : Nat} {a : AlS} (H : St w0 w L) (i : Nat) (hi : L[i]? = some (alA b a)) (hT : Tab w0) (ha : a.Ok) :
    Calls Tryz.prog 64 #[ptr b] w (fun e w' => ∃ a5 c5, e = .returned (.slice a5 (listW a.raised).length c5) ∧ St w0 w' (L.set i (alA b a.merged) ++ [slA 45 2 (.slice a5 (listW a.raised).length c5) (listW a.raised).length (flatHd ((listW a.raised).map a.hd))])) := by
  have hil := (List.getElem?_eq_some_iff.1 hi).1
  have HIL := Lib.hid hil
  obtain ⟨p, H1⟩ := H.exSplit i hi
  have hP := H1.alP ha
  have HALL := Lib.hid (al_all b p.r a.raised a ha ha.raised w (hT.st H) ⟨p, hP⟩ hP.r)
  have c2 := hP.cells.2.2.1
  have HA := Lib.hid ha
  have HS := Lib.hid H1
  have HT := Lib.hid hT
  have HTL := Lib.hid (fun k (hk : k ∈ listW a.raised) => ha.raised k ((listW_mem ha.r64).1 hk))
  have hnl : (listW a.raised).length ≤ 64 := by rw [listW_len]; exact pop_le _
  obtain ⟨n, hn⟩ : ∃ n, (listW a.raised).length = n := ⟨_, rfl⟩
  have HN := Lib.hid hn
  rw [hn] at HALL hnl ⊢
  clear H hi hT ha H1 hP hil hn
  unfold ptr at *
  go_enter Tryz.func64, Tryz.ntmps64
  go_wp2_with (go_at_call 122; refine HALL.out.mono ?_; rintro e w1 ⟨a5, c5, rfl, h1⟩; have HS1 := Lib.hid (show St w0 w1 (MrgL b i a p L (.slice a5 n c5) n ((listW a.raised).map a.hd)) from (HS.out.ofNew h1).first); clear h1 HALL c2)
  go_loopg [15] n (fun g v15 wr => LoopMrg w0 b i a p L (.slice a5 n c5) n g v15 wr)
  case atStart => exact ⟨0, rfl, rfl, HS1.out⟩
  case round =>
    obtain ⟨k, hg, rfl, hst⟩ := hrel
    have HG := Lib.hid hg
    have HST := Lib.hid hst
    clear hst
    by_cases hlt : k < n
    · obtain ⟨d, hd⟩ : ∃ d, (listW a.raised)[k]? = some d := ⟨_, List.getElem?_eq_getElem (by rw [HN.out]; exact hlt)⟩
      have hdn := HTL.out d (List.mem_of_getElem? hd)
      have hl64 := HA.out.len
      have HTK := Lib.hid (show (listW a.raised).take (k + 1) = (listW a.raised).take k ++ [d] by rw [List.take_add_one, hd]; rfl)
      have hd2 : ((listW a.raised).map a.hd)[k]? = some (a.hd d) := by rw [List.getElem?_map, hd]; rfl
      have hok := HA.out.mrg (l := (listW a.raised).take k) (fun x hx => HTL.out x (List.mem_of_mem_take hx))
      obtain ⟨v, hv⟩ : ∃ v, a.gen d = v := ⟨_, rfl⟩
      obtain ⟨G, _, hrd, _⟩ := HST.out.rd 0 (e := 45) (size := 2) (n := n) (v := .slice a5 n c5) (xs := flatHd ((listW a.raised).map a.hd)) rfl
      obtain ⟨bo, oo, rfl, hbo, hco⟩ := Rd.elem (cells := HdV.cells) (size := 2) (l := (listW a.raised).map a.hd) hrd (fun _ => rfl) (by decide) hd2
      have hc0 := hco 0 (by decide)
      have hc1 := hco 1 (by decide)
      simp [HdV.cells, AlS.hd, hv] at hc0 hc1
      have HB := Lib.hid (show St w0 (wr.alloc (.cells #[.int .i64 (d : Nat), .int .i64 (v : Nat)] 45)) (blkA wr.heap.size #[.int .i64 (d : Nat), .int .i64 (v : Nat)] 45 :: MrgL b i (a.mrg ((listW a.raised).take k)) p L (.slice (some ⟨bo, oo, none⟩) n c5) n ((listW a.raised).map a.hd)) from HST.out.box0 _ _)
      have HOK := Lib.hid hok
      clear hd hd2 hrd hbo hco hok hv HST
      go_wp2_with fail
      have c1 : (wr.alloc (.cells #[.int .i64 (d : Nat), .int .i64 (v : Nat)] 45)).cell? ⟨b, 1, none⟩ = some (.pointer (some ⟨p.l, 0, none⟩)) := by rw [(HB.out.blk 2 rfl).cell]; rfl
      have x0 : (wr.alloc (.cells #[.int .i64 (d : Nat), .int .i64 (v : Nat)] 45)).cell? ⟨wr.heap.size, 0, none⟩ = some (.int .i64 (d : Nat)) := by rw [(HB.out.blk 0 rfl).cell]; rfl
      refine wp_region_M (r := 7) (S := fun w' => w'.cell? ⟨b, 1, none⟩ = some (.pointer (some ⟨p.l, 0, none⟩)) ∧ w'.cell? ⟨wr.heap.size, 0, none⟩ = some (.int .i64 (d : Nat))) (by kernel_rfl) ?_ (fun hHeld => ?_)
      · (try dsimp only); exact ⟨c1, x0⟩
      (refine wpAnyM_takeP (i := 0) (oi := ?_) (v := ?_) ?_ ?_ ?_ ?_ ?_ ?_ ?_ ?_ ?_; rotate_left 2; (· simp only [List.getElem?_toArray, List.getElem?_cons_succ, List.getElem?_cons_zero]; exact rfl); (· kernel_rfl); (· kernel_rfl); (· kernel_rfl); (· kernel_rfl); (· first | exact fun _ _ _ h => h | exact fun _ _ _ h => (HPan.out _ _ _ h).elim); (· (refine Or.inl ⟨by rfl, ?_⟩; (intro w hSw; (try dsimp only at hSw); go_simp) <;> with_reducible rfl)); (· exact fun _ => hHeld); simp only [Act.put, List.setIfInBounds_toArray, List.set_cons_zero, List.set_cons_succ])
      (refine wpAnyM_takeP (i := 1) (oi := ?_) (v := ?_) ?_ ?_ ?_ ?_ ?_ ?_ ?_ ?_ ?_; rotate_left 2; (· simp only [List.getElem?_toArray, List.getElem?_cons_succ, List.getElem?_cons_zero]; exact rfl); (· kernel_rfl); (· kernel_rfl); (· kernel_rfl); (· kernel_rfl); (· first | exact fun _ _ _ h => h | exact fun _ _ _ h => (HPan.out _ _ _ h).elim); (· (refine Or.inl ⟨by rfl, ?_⟩; (intro w hSw; (try dsimp only at hSw); go_simp) <;> with_reducible rfl)); (· exact fun _ => hHeld); simp only [Act.put, List.setIfInBounds_toArray, List.set_cons_zero, List.set_cons_succ])
      (refine wpAnyM_takeP (i := 2) (oi := ?_) (v := ?_) ?_ ?_ ?_ ?_ ?_ ?_ ?_ ?_ ?_; rotate_left 2; (· simp only [List.getElem?_toArray, List.getElem?_cons_succ, List.getElem?_cons_zero]; exact rfl); (· kernel_rfl); (· kernel_rfl); (· kernel_rfl); (· kernel_rfl); (· first | exact fun _ _ _ h => h | exact fun _ _ _ h => (HPan.out _ _ _ h).elim); (· (refine Or.inl ⟨by rfl, ?_⟩; (intro w hSw; (try dsimp only at hSw); go_simp) <;> with_reducible rfl)); (· exact fun _ => hHeld); simp only [Act.put, List.setIfInBounds_toArray, List.set_cons_zero, List.set_cons_succ])
      (refine wpAnyM_takeP (i := 3) (oi := ?_) (v := ?_) ?_ ?_ ?_ ?_ ?_ ?_ ?_ ?_ ?_; rotate_left 2; (· simp only [List.getElem?_toArray, List.getElem?_cons_succ, List.getElem?_cons_zero]; exact rfl); (· kernel_rfl); (· kernel_rfl); (· kernel_rfl); (· kernel_rfl); (· first | exact fun _ _ _ h => h | exact fun _ _ _ h => (HPan.out _ _ _ h).elim); (· (refine Or.inl ⟨by rfl, ?_⟩; (intro w hSw; (try dsimp only at hSw); go_simp) <;> with_reducible rfl)); (· exact fun _ => hHeld); simp only [Act.put, List.setIfInBounds_toArray, List.set_cons_zero, List.set_cons_succ])
      (refine wpAnyM_take (i := 4) (oi := ?_) (v := ?_) ?_ ?_ ?_ ?_ ?_ ?_ ?_ ?_ ?_ ?_; rotate_left 2; (· simp only [List.getElem?_toArray, List.getElem?_cons_succ, List.getElem?_cons_zero]; exact rfl); (· kernel_rfl); (· kernel_rfl); (· kernel_rfl); (· kernel_rfl); (· kernel_rfl); (· first | exact fun _ _ _ h => h | exact fun _ _ _ h => (HPan.out _ _ _ h).elim); (· (refine Or.inl ⟨by rfl, ?_⟩; (intro w hSw; (try dsimp only at hSw); go_simp) <;> with_reducible rfl)); (· assumption); simp only [Act.put, List.setIfInBounds_toArray, List.set_cons_zero, List.set_cons_succ])
      (refine wpAnyM_takeP (i := 5) (oi := ?_) (v := ?_) ?_ ?_ ?_ ?_ ?_ ?_ ?_ ?_ ?_; rotate_left 2; (· simp only [List.getElem?_toArray, List.getElem?_cons_succ, List.getElem?_cons_zero]; exact rfl); (· kernel_rfl); (· kernel_rfl); (· kernel_rfl); (· kernel_rfl); (· first | exact fun _ _ _ h => h | exact fun _ _ _ h => (HPan.out _ _ _ h).elim); (· (refine Or.inl ⟨by rfl, ?_⟩; (intro w hSw; (try dsimp only at hSw); go_simp) <;> with_reducible rfl)); (· exact fun _ => hHeld); simp only [Act.put, List.setIfInBounds_toArray, List.set_cons_zero, List.set_cons_succ])
      (refine wpAnyM_take (i := 6) (oi := ?_) (v := ?_) ?_ ?_ ?_ ?_ ?_ ?_ ?_ ?_ ?_ ?_; rotate_left 2; (· simp only [List.getElem?_toArray, List.getElem?_cons_succ, List.getElem?_cons_zero]; exact rfl); (· kernel_rfl); (· kernel_rfl); (· kernel_rfl); (· kernel_rfl); (· kernel_rfl); (· first | exact fun _ _ _ h => h | exact fun _ _ _ h => (HPan.out _ _ _ h).elim); (· (refine Or.inl ⟨by rfl, ?_⟩; (intro w hSw; (try dsimp only at hSw); go_simp) <;> with_reducible rfl)); (· assumption); simp only [Act.put, List.setIfInBounds_toArray, List.set_cons_zero, List.set_cons_succ])
      refine wpAnyM_ready (rs := [7]) (by kernel_rfl) (by simp) ?_
      refine AllReadyM.free (o := ?_) ?_ (by kernel_rfl) ?_ ?_
      rotate_left 1
      · simp only [List.getElem?_toArray, List.getElem?_cons_succ, List.getElem?_cons_zero]; exact rfl
      rotate_left 1
      · exact AllReadyM.nil
      intro K hK
      go_simp
      go_wp2_with ((go_at_call 123; refine (hib_add HB.out.drew 4 rfl HOK.out.l64 d (by omega)).mono ?_; rintro e w2 ⟨rfl, h2⟩; have H2 := Lib.hid h2.rest; clear h2 HB))
      refine hK.out _ _ ?_
      clear hK K
      refine wpAnyM_done (by kernel_rfl) ?_ _
      clear hHeld c1 x0
      go_wp2_with fail
      go_roundg (n - (k + 1))
      case measure => have := HG.out; omega
      case rel =>
        refine ⟨k + 1, by have := HG.out; omega, by go_num, ?_⟩
        rw [HTK.out]
        have e : (a.mrg ((listW a.raised).take k ++ [d])).live = addW (a.mrg ((listW a.raised).take k)).live d := by
          show List.foldl addW a.live _ = _
          rw [List.foldl_append]
          rfl
        unfold MrgL alL
        rw [e]
        exact H2.out
    · have hkn : k = n := by omega
      subst hkn
      have HM := Lib.hid (show St w0 wr (MrgL b i (a.mrg (listW a.raised)) p L (.slice a5 k c5) k ((listW a.raised).map a.hd)) by
        have h := HST.out
        rw [List.take_of_length_le (by have := HN.out; omega)] at h
        exact h)
      have HOK := Lib.hid (HA.out.mrg (l := listW a.raised) HTL.out)
      have c2 : wr.cell? ⟨b, 2, none⟩ = some (.pointer (some ⟨p.r, 0, none⟩)) := by rw [(HM.out.blk 1 rfl).cell]; rfl
      clear HST
      go_wp2_with (go_at_call 124; refine (hib_clear HM.out 4 rfl HOK.out.r64).mono ?_; rintro e w2 ⟨rfl, h2⟩; have H2 := Lib.hid h2; clear h2)
      go_ret
      refine ⟨a5, c5, rfl, mrg_last (a := a.merged) (p := p) HIL.out ?_⟩
      exact H2.out
end Go.Proofs.YtkiikblpgppmkaaGreatDoor

namespace Go.Proofs.YtkiikblpgppmkaaGreatDoor
open Go Go.RowKit
set_option linter.unusedVariables false
set_option linter.unusedSimpArgs false

/-- The claims that stand first are put into another order, some are let go. -/
theorem St.sel {w0 w : World} {P P' R : List Asr} (js : List Nat) (h : St w0 w (P ++ R)) (hn : js.Nodup) (hb' : js.all (fun j => decide (j < P.length)) = true) (he : js.map (fun j => P[j]?) = P'.map some) : St w0 w (P' ++ R) := by
  have hb : ∀ j ∈ js, j < P.length := fun j hj => of_decide_eq_true (List.all_eq_true.1 hb' j hj)
  have hl : js.length = P'.length := by have := congrArg List.length he; simpa using this
  refine h.pick (fun i => if hi : i < js.length then js[i] else i - P'.length + P.length) (fun i j hi hj e => ?_) (fun i A hi => ?_)
  · by_cases h1 : i < js.length <;> by_cases h2 : j < js.length <;> simp [h1, h2] at e
    · have hp := List.pairwise_iff_getElem.1 hn
      rcases Nat.lt_trichotomy i j with h | h | h
      · exact absurd e (hp i j h1 h2 h)
      · exact h
      · exact absurd e.symm (hp j i h2 h1 h)
    · have := hb _ (List.getElem_mem h1); omega
    · have := hb _ (List.getElem_mem h2); omega
    · omega
  · by_cases h1 : i < js.length
    · simp only [h1, dif_pos]
      have e := congrArg (fun l => l[i]?) he
      simp only [List.getElem?_map] at e
      rw [List.getElem?_append_left (by omega)] at hi
      rw [hi, List.getElem?_eq_getElem h1] at e
      simp only [Option.map_some] at e
      injection e with e
      rw [List.getElem?_append_left (hb _ (List.getElem_mem h1)), e]
    · simp only [h1, dif_neg, not_false_eq_true]
      rw [List.getElem?_append_right (by omega)] at hi
      rw [List.getElem?_append_right (by omega), show i - P'.length + P.length - P.length = i - P'.length by omega]
      exact hi
/-- The claims that stand first are made one, put last. -/
theorem St.pack {α : Type} (f : α → List Asr) (p : α) {w0 w : World} {L : List Asr} (h : St w0 w (f p ++ L)) : St w0 w (L ++ [exA fun p => starA (f p)]) := by
  have h1 := h.add (Keep.refl w Nope) (A := empA) trivial
  have h2 : St w0 w (f p ++ (empA :: L)) := by
    refine h1.pick (fun i => if i < (f p).length then i else if i = (f p).length then (f p ++ L).length else i - 1) (fun i j hi hj e => ?_) (fun i A hi => ?_)
    · simp only [List.length_append, List.length_cons] at hi hj e
      by_cases a1 : i < (f p).length <;> by_cases a2 : j < (f p).length <;> by_cases a3 : i = (f p).length <;> by_cases a4 : j = (f p).length <;> simp [a1, a2, a3, a4] at e <;> omega
    · by_cases a1 : i < (f p).length
      · simp only [a1, if_true]
        rw [List.getElem?_append_left a1] at hi
        rw [List.append_assoc, List.getElem?_append_left a1]
        exact hi
      · by_cases a3 : i = (f p).length
        · subst a3
          simp at hi
          subst hi
          simp
        · obtain ⟨j, rfl⟩ : ∃ j, i = (f p).length + 1 + j := ⟨i - (f p).length - 1, by omega⟩
          simp only [a1, a3, if_false]
          rw [List.getElem?_append_right (by omega), show (f p).length + 1 + j - (f p).length = j + 1 by omega, List.getElem?_cons_succ] at hi
          have hl := (List.getElem?_eq_some_iff.1 hi).1
          rw [List.append_assoc, List.getElem?_append_right (by omega), show (f p).length + 1 + j - 1 - (f p).length = j by omega, List.getElem?_append_left hl]
          exact hi
  have h3 := h2.join 0 (by simp)
  have h4 := h3.weaken 0 (B := exA fun p => starA (f p)) rfl (fun G hG => ⟨p, hG⟩)
  exact h4.last
theorem step_make {P : Program} {o : Oper} {a : Act} {w w' : World} {K : Act → World → Prop} {Q : Exit → Act → World → Prop} {t : TypeId} (x y : Operand) (ho : o.op = .makeSlice t x y) {u v r : Value} (hx : a.eval x = u) (hy : a.eval y = v)
    (hr : (Instr.makeSlice t u v).run P w = .ok r w') (h : K (a.put o.dst r) w') : Oper.wp P o a w K Q := by
  unfold Oper.wp execOp
  simp only [ho, hx, hy, hr, Sem.run_bind, Sem.run_pure, Result.andThen_ok]
  exact h
/-- So many are put among the free ones. -/
def newAt (n top k : Nat) : AlS := ⟨fullW k, 0, 0, top, List.replicate n 0, 0⟩
theorem newAt_ok {n top k : Nat} (h1 : 1 ≤ n) (h2 : n ≤ 64) (h3 : 1 ≤ top) (h4 : top < 4294967296) (hk : k ≤ n) : (newAt n top k).Ok := by
  have h := newAl_ok h1 h2 h3 h4
  have hb : ∀ j, (fullW k).testBit j = true → (fullW n).testBit j = true := fun j hj => by
    rw [fullW_bit] at *
    simp at *
    omega
  exact ⟨h.len, h.len1, fun j hj => h.free j (hb j hj), h.live, h.raised, h.top, h.gens, fun j hj => h.room j (hb j hj)⟩
theorem gens_zero (n : Nat) : (List.replicate n [Value.int .i64 0]).flatten = gensV (List.replicate n 0) := by
  induction n with
  | zero => rfl
  | succ n ih => rw [List.replicate_succ, List.flatten_cons, ih, List.replicate_succ]; rfl
theorem make_gens {w0 w : World} {L : List Asr} (h : St w0 w L) (n : Nat) (hn : n ≤ 2000000) :
    ∃ g w', (Instr.makeSlice 25 (.int .i64 (n : Int)) (.int .i64 (n : Int))).run Tryz.prog w = .ok (.slice (some ⟨g, 0, none⟩) n n) w' ∧
      St w0 w' (slA 2 1 (.slice (some ⟨g, 0, none⟩) n n) n (gensV (List.replicate n 0)) :: L) := by
  obtain ⟨w', h1, h2⟩ := h.make (P := Tryz.prog) (t := 25) (e := 2) (size := 1) (bytes := 8) (.int .i64 0) Tryz.underlying25 (by kernel_rfl) rfl (by decide) .i64 .i64 n (by omega) (by unfold maxLen; omega)
  rw [show (Value.int .i64 0).cells.toList = [Value.int .i64 0] from rfl, gens_zero] at h2
  exact ⟨w.heap.size, w', h1, h2.first⟩

theorem step_gens {w0 w : World} {L : List Asr} (h : St w0 w L) (n : Nat) (hn : n ≤ 2000000) {o : Oper} {a : Act} {K : Act → World → Prop} {Q : Exit → Act → World → Prop} (x y : Operand) (ho : o.op = .makeSlice 25 x y) (hx : a.eval x = .int .i64 (n : Int)) (hy : a.eval y = .int .i64 (n : Int))
    (hk : ∀ (g : Nat) (w' : World), St w0 w' (slA 2 1 (.slice (some ⟨g, 0, none⟩) n n) n (gensV (List.replicate n 0)) :: L) → K (a.put o.dst (.slice (some ⟨g, 0, none⟩) n n)) w') : Oper.wp Tryz.prog o a w K Q := by
  have hm := make_gens h n hn
  exact hm.elim fun g h => h.elim fun w' h => step_make x y ho hx hy h.1 (hk g w' h.2)
theorem new_fin {w0 w : World} {L : List Asr} {b bf bl br bg n top : Nat} (h : St w0 w ([blkA b #[.pointer (some ⟨bf, 0, none⟩), .pointer (some ⟨bl, 0, none⟩), .pointer (some ⟨br, 0, none⟩), .int .i64 (top : Nat), .slice (some ⟨bg, 0, none⟩) n n, .int .i64 0] 190, hibA bf 0, hibA bl 0, hibA br 0, slA 2 1 (.slice (some ⟨bg, 0, none⟩) n n) n (gensV (List.replicate n 0))] ++ L)) :
    St w0 w (alL b (newAt n top 0) ⟨bf, bl, br, bg, n⟩ ++ L) := by
  unfold alL alCs newAt
  simp only [List.length_replicate]
  exact h
theorem al_mask (b : Nat) (a : AlS) (w : World) (h : RdAl w b a) :
    Calls Tryz.prog 134 #[ptr b] w (fun e w' => ∃ nb, e = .returned (ptr nb) ∧ Keep w w' Nope ∧ (hibA nb a.live).at' w' (New w w')) := by
  obtain ⟨p, h⟩ := h
  have c1 := h.cells.2.1
  have HC := Lib.hid (hib_copy p.l a.live w h.l)
  clear h
  unfold ptr at *
  go_enter Tryz.func134, Tryz.ntmps134
  go_wp2_with (go_at_call 210; refine HC.out.mono ?_; rintro e w1 ⟨nb, rfl, hk1, h1⟩; have H1 := Lib.hid (And.intro hk1 h1); clear hk1 h1)
  go_ret
  exact ⟨nb, rfl, H1.out⟩

theorem hib_new' (w : World) : Calls Tryz.prog 215 #[.slice none 0 0] w (fun e w' => ∃ b, e = .returned (.pointer (some ⟨b, 0, none⟩)) ∧ (hibA b 0).at' w' (New w w') ∧ Keep w w' Nope) := hib_new w
def LoopNew (w0 : World) (L : List Asr) (b n top : Nat) (p : AlB) (g : Nat) (v32 : Value) (wr : World) : Prop :=
  ∃ k : Nat, g + k = n ∧ v32 = .int .i64 (k : Nat) ∧ St w0 wr (alL b (newAt n top k) p ++ L)
set_option maxRecDepth 100000 in
set_option maxHeartbeats 2000000 in
theorem al_new {w0 w : World} {L : List Asr} (H : St w0 w L) (n top : Nat) (h1 : 1 ≤ n) (h2 : n ≤ 64) (h3 : 1 ≤ top) (h4 : top < 4294967296) :
    Calls Tryz.prog 142 #[.int .i64 (n : Nat), .int .i64 (top : Nat)] w (fun e w' => ∃ b, e = .returned (.tuple #[ptr b, .int .i64 0]) ∧ St w0 w' (L ++ [alA b (newAl n top)])) := by
  have e0 : decide ((n : Int) < 1) = false := decide_eq_false (by omega)
  have e1 : decide ((n : Int) > 65536) = false := decide_eq_false (by omega)
  have e2 : decide ((top : Int) < 1) = false := decide_eq_false (by omega)
  have e3 : decide ((top : Int) > 4294967295) = false := decide_eq_false (by omega)
  have e4 : decide (n < 1) = false := decide_eq_false (by omega)
  have e5 : decide (65536 < n) = false := decide_eq_false (by omega)
  have e6 : decide (top < 1) = false := decide_eq_false (by omega)
  have e7 : decide (4294967295 < top) = false := decide_eq_false (by omega)
  have HH := Lib.hid H
  clear H
  go_enter Tryz.func142, Tryz.ntmps142
  go_wp2_with fail
  go_cut [6] (fun v6 wc => ∃ (b : Nat) (p : AlB), v6 = .pointer (some ⟨b, 0, none⟩) ∧ St w0 wc (alL b (newAt n top 0) p ++ L))
  case first =>
    have HCUR := Lib.hid HH.out.drew
    refine wp_region_M (r := 9) (S := fun w' => True) (by kernel_rfl) ?_ (fun hHeld => ?_)
    · (try dsimp only); (try trivial)
    (refine wpAnyM_takeP (i := 4) (oi := ?_) (v := ?_) ?_ ?_ ?_ ?_ ?_ ?_ ?_ ?_ ?_; rotate_left 2; (· simp only [List.getElem?_toArray, List.getElem?_cons_succ, List.getElem?_cons_zero]; exact rfl); (· kernel_rfl); (· kernel_rfl); (· kernel_rfl); (· kernel_rfl); (· first | exact fun _ _ _ h => h | exact fun _ _ _ h => (HPan.out _ _ _ h).elim); (· (refine Or.inl ⟨by rfl, ?_⟩; (intro w hSw; (try dsimp only at hSw); go_simp) <;> with_reducible rfl)); (· exact fun _ => hHeld); simp only [Act.put, List.setIfInBounds_toArray, List.set_cons_zero, List.set_cons_succ])
    (refine wpAnyM_takeP (i := 5) (oi := ?_) (v := ?_) ?_ ?_ ?_ ?_ ?_ ?_ ?_ ?_ ?_; rotate_left 2; (· simp only [List.getElem?_toArray, List.getElem?_cons_succ, List.getElem?_cons_zero]; exact rfl); (· kernel_rfl); (· kernel_rfl); (· kernel_rfl); (· kernel_rfl); (· first | exact fun _ _ _ h => h | exact fun _ _ _ h => (HPan.out _ _ _ h).elim); (· (refine Or.inl ⟨by rfl, ?_⟩; (intro w hSw; (try dsimp only at hSw); go_simp) <;> with_reducible rfl)); (· exact fun _ => hHeld); simp only [Act.put, List.setIfInBounds_toArray, List.set_cons_zero, List.set_cons_succ])
    refine wpAnyM_ready (rs := [0, 6]) (by kernel_rfl) (by simp) ?_
    refine AllReadyM.cons (o := ?_) ?_ ?_ ?_
    rotate_left 1
    · simp only [List.getElem?_toArray, List.getElem?_cons_succ, List.getElem?_cons_zero]; exact rfl
    · intro K hK
      go_simp
      go_wp2_with ((go_at_call 215; refine (hib_new' _).mono ?_; rintro e wf ⟨bf, rfl, hA, hK⟩; replace HCUR := Lib.hid (HCUR.out.add hK hA).first; clear hA hK))
      refine hK.out _ _ ?_ (fun hHeld => ?_)
      · (try dsimp only); (try trivial)
      clear hK K
      refine wpAnyM_ready (rs := [1, 6]) (by kernel_rfl) (by simp) ?_
      refine AllReadyM.cons (o := ?_) ?_ ?_ ?_
      rotate_left 1
      · simp only [List.getElem?_toArray, List.getElem?_cons_succ, List.getElem?_cons_zero]; exact rfl
      · intro K hK
        go_simp
        go_wp2_with ((go_at_call 215; refine (hib_new' _).mono ?_; rintro e wl ⟨bl, rfl, hA, hK⟩; replace HCUR := Lib.hid (HCUR.out.add hK hA).first; clear hA hK))
        refine hK.out _ _ ?_ (fun hHeld => ?_)
        · (try dsimp only); (try trivial)
        clear hK K
        refine wpAnyM_ready (rs := [2, 6]) (by kernel_rfl) (by simp) ?_
        refine AllReadyM.cons (o := ?_) ?_ ?_ ?_
        rotate_left 1
        · simp only [List.getElem?_toArray, List.getElem?_cons_succ, List.getElem?_cons_zero]; exact rfl
        · intro K hK
          go_simp
          go_wp2_with ((go_at_call 215; refine (hib_new' _).mono ?_; rintro e wx ⟨br, rfl, hA, hK⟩; replace HCUR := Lib.hid (HCUR.out.add hK hA).first; clear hA hK))
          refine hK.out _ _ ?_ (fun hHeld => ?_)
          · (try dsimp only); (try trivial)
          clear hK K
          (refine wpAnyM_takeP (i := 3) (oi := ?_) (v := ?_) ?_ ?_ ?_ ?_ ?_ ?_ ?_ ?_ ?_; rotate_left 2; (· simp only [List.getElem?_toArray, List.getElem?_cons_succ, List.getElem?_cons_zero]; exact rfl); (· kernel_rfl); (· kernel_rfl); (· kernel_rfl); (· kernel_rfl); (· first | exact fun _ _ _ h => h | exact fun _ _ _ h => (HPan.out _ _ _ h).elim); (· (refine Or.inl ⟨by rfl, ?_⟩; (intro w hSw; (try dsimp only at hSw); go_simp) <;> with_reducible rfl)); (· exact fun _ => hHeld); simp only [Act.put, List.setIfInBounds_toArray, List.set_cons_zero, List.set_cons_succ])
          refine wpAnyM_ready (rs := [6]) (by kernel_rfl) (by simp) ?_
          refine AllReadyM.cons (o := ?_) ?_ ?_ ?_
          rotate_left 1
          · simp only [List.getElem?_toArray, List.getElem?_cons_succ, List.getElem?_cons_zero]; exact rfl
          rotate_left 1
          · exact AllReadyM.nil
          intro K hK
          rw [if_pos (by rfl)]
          (have hn6 : n ≤ 2000000 := (by omega); have h1 := @step_gens _ _ _ HCUR.out n hn6; have h2 := fun o a K Q x y => @h1 o a K Q x y; clear h1; refine h2 _ _ _ _ (.tmp 27) (.tmp 27) ?_ ?_ ?_ ?_; clear h2; (· exact rfl); (· simp [Act.eval, Act.put]); (· simp [Act.eval, Act.put]); intro bg wg hst; replace HCUR := Lib.hid hst; clear hst)
          refine hK.out _ _ ?_ (fun hHeld => ?_)
          · (try dsimp only); (try trivial)
          clear hK K
          (try simp only [List.getElem_toArray, List.getElem_cons_succ, List.getElem_cons_zero, Act.put, List.setIfInBounds_toArray, List.set_cons_zero, List.set_cons_succ])
          (refine wpAnyM_takeP (i := 7) (oi := ?_) (v := ?_) ?_ ?_ ?_ ?_ ?_ ?_ ?_ ?_ ?_; rotate_left 2; (· simp only [List.getElem?_toArray, List.getElem?_cons_succ, List.getElem?_cons_zero]; exact rfl); (· kernel_rfl); (· kernel_rfl); (· kernel_rfl); (· kernel_rfl); (· first | exact fun _ _ _ h => h | exact fun _ _ _ h => (HPan.out _ _ _ h).elim); (· (refine Or.inl ⟨by rfl, ?_⟩; (intro w hSw; (try dsimp only at hSw); go_simp) <;> with_reducible rfl)); (· exact fun _ => hHeld); simp only [Act.put, List.setIfInBounds_toArray, List.set_cons_zero, List.set_cons_succ])
          refine wpAnyM_ready (rs := [8]) (by kernel_rfl) (by simp) ?_
          refine AllReadyM.cons (o := ?_) ?_ ?_ ?_
          rotate_left 1
          · simp only [List.getElem?_toArray, List.getElem?_cons_succ, List.getElem?_cons_zero]; exact rfl
          rotate_left 1
          · exact AllReadyM.nil
          intro K hK
          go_simp
          refine hK.out _ _ ?_ (fun hHeld => ?_)
          · (try dsimp only); (try trivial)
          clear hK K
          refine wpAnyM_ready (rs := [9]) (by kernel_rfl) (by simp) ?_
          refine AllReadyM.free (o := ?_) ?_ (by kernel_rfl) ?_ ?_
          rotate_left 1
          · simp only [List.getElem?_toArray, List.getElem?_cons_succ, List.getElem?_cons_zero]; exact rfl
          rotate_left 1
          · exact AllReadyM.nil
          intro K hK
          go_simp
          refine hK.out _ _ ?_
          clear hK K
          refine wpAnyM_done (by kernel_rfl) ?_ _
          go_wp2_with fail
          go_meet
          case rel =>
            refine ⟨_, ⟨bf, bl, br, bg, n⟩, rfl, new_fin ?_⟩
            have h := HCUR.out.box0 #[.pointer (some ⟨bf, 0, none⟩), .pointer (some ⟨bl, 0, none⟩), .pointer (some ⟨br, 0, none⟩), .int .i64 (top : Nat), .slice (some ⟨bg, 0, none⟩) n n, .int .i64 0] 190
            first
              | exact St.sel (P := [_, _, _, _, _]) (R := L) [0, 4, 3, 2, 1] h (by decide) rfl rfl
              | exact St.sel (P := [_, _, _, _, _]) (R := L) [0, 3, 2, 1, 4] h (by decide) rfl rfl
              | exact St.sel (P := [_, _, _, _, _]) (R := L) [0, 4, 2, 1, 3] h (by decide) rfl rfl
              | exact St.sel (P := [_, _, _, _, _]) (R := L) [0, 4, 3, 1, 2] h (by decide) rfl rfl
        refine AllReadyM.cons (o := ?_) ?_ ?_ ?_
        rotate_left 1
        · simp only [List.getElem?_toArray, List.getElem?_cons_succ, List.getElem?_cons_zero]; exact rfl
        · intro K hK
          rw [if_pos (by rfl)]
          (have hn6 : n ≤ 2000000 := (by omega); have h1 := @step_gens _ _ _ HCUR.out n hn6; have h2 := fun o a K Q x y => @h1 o a K Q x y; clear h1; refine h2 _ _ _ _ (.tmp 27) (.tmp 27) ?_ ?_ ?_ ?_; clear h2; (· exact rfl); (· simp [Act.eval, Act.put]); (· simp [Act.eval, Act.put]); intro bg wg hst; replace HCUR := Lib.hid hst; clear hst)
          refine hK.out _ _ ?_ (fun hHeld => ?_)
          · (try dsimp only); (try trivial)
          clear hK K
          (try simp only [List.getElem_toArray, List.getElem_cons_succ, List.getElem_cons_zero, Act.put, List.setIfInBounds_toArray, List.set_cons_zero, List.set_cons_succ])
          refine wpAnyM_ready (rs := [2]) (by kernel_rfl) (by simp) ?_
          refine AllReadyM.cons (o := ?_) ?_ ?_ ?_
          rotate_left 1
          · simp only [List.getElem?_toArray, List.getElem?_cons_succ, List.getElem?_cons_zero]; exact rfl
          rotate_left 1
          · exact AllReadyM.nil
          intro K hK
          go_simp
          go_wp2_with ((go_at_call 215; refine (hib_new' _).mono ?_; rintro e wx ⟨br, rfl, hA, hK⟩; replace HCUR := Lib.hid (HCUR.out.add hK hA).first; clear hA hK))
          refine hK.out _ _ ?_ (fun hHeld => ?_)
          · (try dsimp only); (try trivial)
          clear hK K
          (refine wpAnyM_takeP (i := 3) (oi := ?_) (v := ?_) ?_ ?_ ?_ ?_ ?_ ?_ ?_ ?_ ?_; rotate_left 2; (· simp only [List.getElem?_toArray, List.getElem?_cons_succ, List.getElem?_cons_zero]; exact rfl); (· kernel_rfl); (· kernel_rfl); (· kernel_rfl); (· kernel_rfl); (· first | exact fun _ _ _ h => h | exact fun _ _ _ h => (HPan.out _ _ _ h).elim); (· (refine Or.inl ⟨by rfl, ?_⟩; (intro w hSw; (try dsimp only at hSw); go_simp) <;> with_reducible rfl)); (· exact fun _ => hHeld); simp only [Act.put, List.setIfInBounds_toArray, List.set_cons_zero, List.set_cons_succ])
          (refine wpAnyM_takeP (i := 7) (oi := ?_) (v := ?_) ?_ ?_ ?_ ?_ ?_ ?_ ?_ ?_ ?_; rotate_left 2; (· simp only [List.getElem?_toArray, List.getElem?_cons_succ, List.getElem?_cons_zero]; exact rfl); (· kernel_rfl); (· kernel_rfl); (· kernel_rfl); (· kernel_rfl); (· first | exact fun _ _ _ h => h | exact fun _ _ _ h => (HPan.out _ _ _ h).elim); (· (refine Or.inl ⟨by rfl, ?_⟩; (intro w hSw; (try dsimp only at hSw); go_simp) <;> with_reducible rfl)); (· exact fun _ => hHeld); simp only [Act.put, List.setIfInBounds_toArray, List.set_cons_zero, List.set_cons_succ])
          refine wpAnyM_ready (rs := [8]) (by kernel_rfl) (by simp) ?_
          refine AllReadyM.cons (o := ?_) ?_ ?_ ?_
          rotate_left 1
          · simp only [List.getElem?_toArray, List.getElem?_cons_succ, List.getElem?_cons_zero]; exact rfl
          rotate_left 1
          · exact AllReadyM.nil
          intro K hK
          go_simp
          refine hK.out _ _ ?_ (fun hHeld => ?_)
          · (try dsimp only); (try trivial)
          clear hK K
          refine wpAnyM_ready (rs := [9]) (by kernel_rfl) (by simp) ?_
          refine AllReadyM.free (o := ?_) ?_ (by kernel_rfl) ?_ ?_
          rotate_left 1
          · simp only [List.getElem?_toArray, List.getElem?_cons_succ, List.getElem?_cons_zero]; exact rfl
          rotate_left 1
          · exact AllReadyM.nil
          intro K hK
          go_simp
          refine hK.out _ _ ?_
          clear hK K
          refine wpAnyM_done (by kernel_rfl) ?_ _
          go_wp2_with fail
          go_meet
          case rel =>
            refine ⟨_, ⟨bf, bl, br, bg, n⟩, rfl, new_fin ?_⟩
            have h := HCUR.out.box0 #[.pointer (some ⟨bf, 0, none⟩), .pointer (some ⟨bl, 0, none⟩), .pointer (some ⟨br, 0, none⟩), .int .i64 (top : Nat), .slice (some ⟨bg, 0, none⟩) n n, .int .i64 0] 190
            first
              | exact St.sel (P := [_, _, _, _, _]) (R := L) [0, 4, 3, 2, 1] h (by decide) rfl rfl
              | exact St.sel (P := [_, _, _, _, _]) (R := L) [0, 3, 2, 1, 4] h (by decide) rfl rfl
              | exact St.sel (P := [_, _, _, _, _]) (R := L) [0, 4, 2, 1, 3] h (by decide) rfl rfl
              | exact St.sel (P := [_, _, _, _, _]) (R := L) [0, 4, 3, 1, 2] h (by decide) rfl rfl
        exact AllReadyM.nil
      refine AllReadyM.cons (o := ?_) ?_ ?_ ?_
      rotate_left 1
      · simp only [List.getElem?_toArray, List.getElem?_cons_succ, List.getElem?_cons_zero]; exact rfl
      · intro K hK
        rw [if_pos (by rfl)]
        (have hn6 : n ≤ 2000000 := (by omega); have h1 := @step_gens _ _ _ HCUR.out n hn6; have h2 := fun o a K Q x y => @h1 o a K Q x y; clear h1; refine h2 _ _ _ _ (.tmp 27) (.tmp 27) ?_ ?_ ?_ ?_; clear h2; (· exact rfl); (· simp [Act.eval, Act.put]); (· simp [Act.eval, Act.put]); intro bg wg hst; replace HCUR := Lib.hid hst; clear hst)
        refine hK.out _ _ ?_ (fun hHeld => ?_)
        · (try dsimp only); (try trivial)
        clear hK K
        (try simp only [List.getElem_toArray, List.getElem_cons_succ, List.getElem_cons_zero, Act.put, List.setIfInBounds_toArray, List.set_cons_zero, List.set_cons_succ])
        refine wpAnyM_ready (rs := [1]) (by kernel_rfl) (by simp) ?_
        refine AllReadyM.cons (o := ?_) ?_ ?_ ?_
        rotate_left 1
        · simp only [List.getElem?_toArray, List.getElem?_cons_succ, List.getElem?_cons_zero]; exact rfl
        rotate_left 1
        · exact AllReadyM.nil
        intro K hK
        go_simp
        go_wp2_with ((go_at_call 215; refine (hib_new' _).mono ?_; rintro e wl ⟨bl, rfl, hA, hK⟩; replace HCUR := Lib.hid (HCUR.out.add hK hA).first; clear hA hK))
        refine hK.out _ _ ?_ (fun hHeld => ?_)
        · (try dsimp only); (try trivial)
        clear hK K
        refine wpAnyM_ready (rs := [2]) (by kernel_rfl) (by simp) ?_
        refine AllReadyM.cons (o := ?_) ?_ ?_ ?_
        rotate_left 1
        · simp only [List.getElem?_toArray, List.getElem?_cons_succ, List.getElem?_cons_zero]; exact rfl
        rotate_left 1
        · exact AllReadyM.nil
        intro K hK
        go_simp
        go_wp2_with ((go_at_call 215; refine (hib_new' _).mono ?_; rintro e wx ⟨br, rfl, hA, hK⟩; replace HCUR := Lib.hid (HCUR.out.add hK hA).first; clear hA hK))
        refine hK.out _ _ ?_ (fun hHeld => ?_)
        · (try dsimp only); (try trivial)
        clear hK K
        (refine wpAnyM_takeP (i := 3) (oi := ?_) (v := ?_) ?_ ?_ ?_ ?_ ?_ ?_ ?_ ?_ ?_; rotate_left 2; (· simp only [List.getElem?_toArray, List.getElem?_cons_succ, List.getElem?_cons_zero]; exact rfl); (· kernel_rfl); (· kernel_rfl); (· kernel_rfl); (· kernel_rfl); (· first | exact fun _ _ _ h => h | exact fun _ _ _ h => (HPan.out _ _ _ h).elim); (· (refine Or.inl ⟨by rfl, ?_⟩; (intro w hSw; (try dsimp only at hSw); go_simp) <;> with_reducible rfl)); (· exact fun _ => hHeld); simp only [Act.put, List.setIfInBounds_toArray, List.set_cons_zero, List.set_cons_succ])
        (refine wpAnyM_takeP (i := 7) (oi := ?_) (v := ?_) ?_ ?_ ?_ ?_ ?_ ?_ ?_ ?_ ?_; rotate_left 2; (· simp only [List.getElem?_toArray, List.getElem?_cons_succ, List.getElem?_cons_zero]; exact rfl); (· kernel_rfl); (· kernel_rfl); (· kernel_rfl); (· kernel_rfl); (· first | exact fun _ _ _ h => h | exact fun _ _ _ h => (HPan.out _ _ _ h).elim); (· (refine Or.inl ⟨by rfl, ?_⟩; (intro w hSw; (try dsimp only at hSw); go_simp) <;> with_reducible rfl)); (· exact fun _ => hHeld); simp only [Act.put, List.setIfInBounds_toArray, List.set_cons_zero, List.set_cons_succ])
        refine wpAnyM_ready (rs := [8]) (by kernel_rfl) (by simp) ?_
        refine AllReadyM.cons (o := ?_) ?_ ?_ ?_
        rotate_left 1
        · simp only [List.getElem?_toArray, List.getElem?_cons_succ, List.getElem?_cons_zero]; exact rfl
        rotate_left 1
        · exact AllReadyM.nil
        intro K hK
        go_simp
        refine hK.out _ _ ?_ (fun hHeld => ?_)
        · (try dsimp only); (try trivial)
        clear hK K
        refine wpAnyM_ready (rs := [9]) (by kernel_rfl) (by simp) ?_
        refine AllReadyM.free (o := ?_) ?_ (by kernel_rfl) ?_ ?_
        rotate_left 1
        · simp only [List.getElem?_toArray, List.getElem?_cons_succ, List.getElem?_cons_zero]; exact rfl
        rotate_left 1
        · exact AllReadyM.nil
        intro K hK
        go_simp
        refine hK.out _ _ ?_
        clear hK K
        refine wpAnyM_done (by kernel_rfl) ?_ _
        go_wp2_with fail
        go_meet
        case rel =>
          refine ⟨_, ⟨bf, bl, br, bg, n⟩, rfl, new_fin ?_⟩
          have h := HCUR.out.box0 #[.pointer (some ⟨bf, 0, none⟩), .pointer (some ⟨bl, 0, none⟩), .pointer (some ⟨br, 0, none⟩), .int .i64 (top : Nat), .slice (some ⟨bg, 0, none⟩) n n, .int .i64 0] 190
          first
            | exact St.sel (P := [_, _, _, _, _]) (R := L) [0, 4, 3, 2, 1] h (by decide) rfl rfl
            | exact St.sel (P := [_, _, _, _, _]) (R := L) [0, 3, 2, 1, 4] h (by decide) rfl rfl
            | exact St.sel (P := [_, _, _, _, _]) (R := L) [0, 4, 2, 1, 3] h (by decide) rfl rfl
            | exact St.sel (P := [_, _, _, _, _]) (R := L) [0, 4, 3, 1, 2] h (by decide) rfl rfl
      exact AllReadyM.nil
    refine AllReadyM.cons (o := ?_) ?_ ?_ ?_
    rotate_left 1
    · simp only [List.getElem?_toArray, List.getElem?_cons_succ, List.getElem?_cons_zero]; exact rfl
    · intro K hK
      rw [if_pos (by rfl)]
      (have hn6 : n ≤ 2000000 := (by omega); have h1 := @step_gens _ _ _ HCUR.out n hn6; have h2 := fun o a K Q x y => @h1 o a K Q x y; clear h1; refine h2 _ _ _ _ (.tmp 27) (.tmp 27) ?_ ?_ ?_ ?_; clear h2; (· exact rfl); (· simp [Act.eval, Act.put]); (· simp [Act.eval, Act.put]); intro bg wg hst; replace HCUR := Lib.hid hst; clear hst)
      refine hK.out _ _ ?_ (fun hHeld => ?_)
      · (try dsimp only); (try trivial)
      clear hK K
      (try simp only [List.getElem_toArray, List.getElem_cons_succ, List.getElem_cons_zero, Act.put, List.setIfInBounds_toArray, List.set_cons_zero, List.set_cons_succ])
      refine wpAnyM_ready (rs := [0]) (by kernel_rfl) (by simp) ?_
      refine AllReadyM.cons (o := ?_) ?_ ?_ ?_
      rotate_left 1
      · simp only [List.getElem?_toArray, List.getElem?_cons_succ, List.getElem?_cons_zero]; exact rfl
      rotate_left 1
      · exact AllReadyM.nil
      intro K hK
      go_simp
      go_wp2_with ((go_at_call 215; refine (hib_new' _).mono ?_; rintro e wf ⟨bf, rfl, hA, hK⟩; replace HCUR := Lib.hid (HCUR.out.add hK hA).first; clear hA hK))
      refine hK.out _ _ ?_ (fun hHeld => ?_)
      · (try dsimp only); (try trivial)
      clear hK K
      refine wpAnyM_ready (rs := [1]) (by kernel_rfl) (by simp) ?_
      refine AllReadyM.cons (o := ?_) ?_ ?_ ?_
      rotate_left 1
      · simp only [List.getElem?_toArray, List.getElem?_cons_succ, List.getElem?_cons_zero]; exact rfl
      rotate_left 1
      · exact AllReadyM.nil
      intro K hK
      go_simp
      go_wp2_with ((go_at_call 215; refine (hib_new' _).mono ?_; rintro e wl ⟨bl, rfl, hA, hK⟩; replace HCUR := Lib.hid (HCUR.out.add hK hA).first; clear hA hK))
      refine hK.out _ _ ?_ (fun hHeld => ?_)
      · (try dsimp only); (try trivial)
      clear hK K
      refine wpAnyM_ready (rs := [2]) (by kernel_rfl) (by simp) ?_
      refine AllReadyM.cons (o := ?_) ?_ ?_ ?_
      rotate_left 1
      · simp only [List.getElem?_toArray, List.getElem?_cons_succ, List.getElem?_cons_zero]; exact rfl
      rotate_left 1
      · exact AllReadyM.nil
      intro K hK
      go_simp
      go_wp2_with ((go_at_call 215; refine (hib_new' _).mono ?_; rintro e wx ⟨br, rfl, hA, hK⟩; replace HCUR := Lib.hid (HCUR.out.add hK hA).first; clear hA hK))
      refine hK.out _ _ ?_ (fun hHeld => ?_)
      · (try dsimp only); (try trivial)
      clear hK K
      (refine wpAnyM_takeP (i := 3) (oi := ?_) (v := ?_) ?_ ?_ ?_ ?_ ?_ ?_ ?_ ?_ ?_; rotate_left 2; (· simp only [List.getElem?_toArray, List.getElem?_cons_succ, List.getElem?_cons_zero]; exact rfl); (· kernel_rfl); (· kernel_rfl); (· kernel_rfl); (· kernel_rfl); (· first | exact fun _ _ _ h => h | exact fun _ _ _ h => (HPan.out _ _ _ h).elim); (· (refine Or.inl ⟨by rfl, ?_⟩; (intro w hSw; (try dsimp only at hSw); go_simp) <;> with_reducible rfl)); (· exact fun _ => hHeld); simp only [Act.put, List.setIfInBounds_toArray, List.set_cons_zero, List.set_cons_succ])
      (refine wpAnyM_takeP (i := 7) (oi := ?_) (v := ?_) ?_ ?_ ?_ ?_ ?_ ?_ ?_ ?_ ?_; rotate_left 2; (· simp only [List.getElem?_toArray, List.getElem?_cons_succ, List.getElem?_cons_zero]; exact rfl); (· kernel_rfl); (· kernel_rfl); (· kernel_rfl); (· kernel_rfl); (· first | exact fun _ _ _ h => h | exact fun _ _ _ h => (HPan.out _ _ _ h).elim); (· (refine Or.inl ⟨by rfl, ?_⟩; (intro w hSw; (try dsimp only at hSw); go_simp) <;> with_reducible rfl)); (· exact fun _ => hHeld); simp only [Act.put, List.setIfInBounds_toArray, List.set_cons_zero, List.set_cons_succ])
      refine wpAnyM_ready (rs := [8]) (by kernel_rfl) (by simp) ?_
      refine AllReadyM.cons (o := ?_) ?_ ?_ ?_
      rotate_left 1
      · simp only [List.getElem?_toArray, List.getElem?_cons_succ, List.getElem?_cons_zero]; exact rfl
      rotate_left 1
      · exact AllReadyM.nil
      intro K hK
      go_simp
      refine hK.out _ _ ?_ (fun hHeld => ?_)
      · (try dsimp only); (try trivial)
      clear hK K
      refine wpAnyM_ready (rs := [9]) (by kernel_rfl) (by simp) ?_
      refine AllReadyM.free (o := ?_) ?_ (by kernel_rfl) ?_ ?_
      rotate_left 1
      · simp only [List.getElem?_toArray, List.getElem?_cons_succ, List.getElem?_cons_zero]; exact rfl
      rotate_left 1
      · exact AllReadyM.nil
      intro K hK
      go_simp
      refine hK.out _ _ ?_
      clear hK K
      refine wpAnyM_done (by kernel_rfl) ?_ _
      go_wp2_with fail
      go_meet
      case rel =>
        refine ⟨_, ⟨bf, bl, br, bg, n⟩, rfl, new_fin ?_⟩
        have h := HCUR.out.box0 #[.pointer (some ⟨bf, 0, none⟩), .pointer (some ⟨bl, 0, none⟩), .pointer (some ⟨br, 0, none⟩), .int .i64 (top : Nat), .slice (some ⟨bg, 0, none⟩) n n, .int .i64 0] 190
        first
          | exact St.sel (P := [_, _, _, _, _]) (R := L) [0, 4, 3, 2, 1] h (by decide) rfl rfl
          | exact St.sel (P := [_, _, _, _, _]) (R := L) [0, 3, 2, 1, 4] h (by decide) rfl rfl
          | exact St.sel (P := [_, _, _, _, _]) (R := L) [0, 4, 2, 1, 3] h (by decide) rfl rfl
          | exact St.sel (P := [_, _, _, _, _]) (R := L) [0, 4, 3, 1, 2] h (by decide) rfl rfl
    exact AllReadyM.nil
  case rest =>
    obtain ⟨b, p, rfl, hst⟩ := hcut
    have HST := Lib.hid hst
    clear hst HH
    go_wp2_with fail
    go_loopg [32] n (fun g v32 wr => LoopNew w0 L b n top p g v32 wr)
    case atStart => exact ⟨0, rfl, rfl, HST.out⟩
    case round =>
      obtain ⟨k, hg, rfl, hst⟩ := hrel
      have HG := Lib.hid hg
      have HSK := Lib.hid hst
      clear hg hst HST
      by_cases hlt : k < n
      · have HOK := Lib.hid (newAt_ok h1 h2 h3 h4 (Nat.le_of_lt hlt))
        have c0 : wr.cell? ⟨b, 0, none⟩ = some (.pointer (some ⟨p.f, 0, none⟩)) := by rw [(HSK.out.blk 0 rfl).cell]; rfl
        go_wp2_with (go_at_call 123; refine (hib_add HSK.out 1 rfl HOK.out.f64 k (by omega)).mono ?_; rintro e w2 ⟨rfl, h2'⟩; have H2 := Lib.hid h2'; clear h2' c0)
        go_roundg (n - (k + 1))
        case measure => have := HG.out; omega
        case rel =>
          refine ⟨k + 1, by have := HG.out; omega, by go_num, ?_⟩
          unfold alL
          rw [show (newAt n top (k + 1)).free = addW (newAt n top k).free k from fullW_succ k]
          exact H2.out
      · have hkn : k = n := by have := HG.out; omega
        subst hkn
        go_wp2_with fail
        go_ret2
        refine ⟨b, rfl, ?_⟩
        exact St.pack (alL b (newAl k top)) p HSK.out
end Go.Proofs.YtkiikblpgppmkaaGreatDoor

namespace Go.Proofs.YtkiikblpgppmkaaGreatDoor
open Go Go.RowKit
set_option linter.unusedVariables false
set_option linter.unusedSimpArgs false

/-- Whether an index and a size may be. -/
def mayHome (i size : Int) : Bool := decide (0 ≤ i) && (decide (i < 65536) && (decide (8 ≤ size) && (decide (size ≤ 1048576) && (bits .and .i64 size (size - 1) == 0))))
/-- The home of what may be. -/
def homeOf (i size : Int) : Int := (i * 2654435761 % 4294967296) / (4294967296 / size)
def home (i size : Int) : Int := if mayHome i size = true then homeOf i size else -1

theorem home_div (size : Int) (h2 : 8 ≤ size) (h3 : size ≤ 1048576) : 1 ≤ 4294967296 / size := (Int.le_ediv_iff_mul_le (by omega)).2 (by omega)
theorem home_bd (i size : Int) (h2 : 8 ≤ size) (h3 : size ≤ 1048576) : 0 ≤ homeOf i size ∧ homeOf i size ≤ 4294967296 := by
  unfold homeOf
  have a1 : 0 ≤ i * 2654435761 % 4294967296 := by omega
  have a2 : i * 2654435761 % 4294967296 < 4294967296 := by omega
  have a3 := home_div size h2 h3
  exact ⟨Int.ediv_nonneg a1 (by omega), Int.le_trans (Int.ediv_le_self _ a1) (by omega)⟩
theorem home_wrap (i size : Int) (h2 : 8 ≤ size) (h3 : size ≤ 1048576) : wrap64 (homeOf i size) = homeOf i size := by
  have a := home_bd i size h2 h3
  exact IntWalk.wrap64_in _ (by omega)

set_option maxHeartbeats 1000000 in
theorem hash_home_no (i size : Int) (w : World) (h : mayHome i size = false) (hi : -9223372036854775808 ≤ i ∧ i ≤ 9223372036854775807) (hs : -9223372036854775808 ≤ size ∧ size ≤ 9223372036854775807) :
    Calls Tryz.prog 398 #[.int .i64 i, .int .i64 size] w fun e w' => e = .returned (.int .i64 (-1)) ∧ w = w' := by
  have HM := Lib.hid h; clear h
  by_cases h1 : i < 0
  · go_enter Tryz.func398, Tryz.ntmps398
    go_wp2_with fail
    go_ret
    exact ⟨rfl, rfl⟩
  · by_cases h2 : 65536 ≤ i
    · go_enter Tryz.func398, Tryz.ntmps398
      go_wp2_with fail
      go_ret
      exact ⟨rfl, rfl⟩
    · by_cases h3 : size < 8
      · go_enter Tryz.func398, Tryz.ntmps398
        go_wp2_with fail
        go_ret
        exact ⟨rfl, rfl⟩
      · by_cases h4 : 1048576 < size
        · go_enter Tryz.func398, Tryz.ntmps398
          go_wp2_with fail
          go_ret
          exact ⟨rfl, rfl⟩
        · have h5 : (bits .and .i64 size (size - 1) != 0) = true := by
            have := HM.out
            simp [mayHome] at this
            have := this (by omega) (by omega) (by omega) (by omega)
            simpa [bne_iff_ne] using this
          go_enter Tryz.func398, Tryz.ntmps398
          go_wp2_with fail
          go_ret
          exact ⟨rfl, rfl⟩

set_option maxHeartbeats 1000000 in
theorem hash_home_yes (i size : Int) (w : World) (h : mayHome i size = true) :
    Calls Tryz.prog 398 #[.int .i64 i, .int .i64 size] w fun e w' => e = .returned (.int .i64 (homeOf i size)) ∧ w = w' := by
  simp [mayHome] at h
  obtain ⟨h1, h2, h3, h4, h5⟩ := h
  have h6 : (bits .and .i64 size (size - 1) != 0) = false := by simp [h5]
  have h7 := home_div size h3 h4
  have HW := Lib.hid (home_wrap i size h3 h4)
  clear h5
  go_enter Tryz.func398, Tryz.ntmps398
  go_wp2_with fail
  all_goals try (exfalso; omega)
  go_ret
  refine ⟨?_, rfl⟩
  show Ending.returned (.int .i64 (wrap64 (homeOf i size))) = _
  rw [HW.out]
end Go.Proofs.YtkiikblpgppmkaaGreatDoor
