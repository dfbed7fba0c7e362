/-
  The queue's Join: several queues at once, each in its own blocks.
-/
import Derived.Test.YtnadfefjmoibeaaLazy4
namespace Go.Proofs.Ytnadfefjmoibeaa
open Go Go.RowKit

def ptrTo : Option Nat → Value
  | none => .pointer none
  | some b => .pointer (some ⟨b, 0, none⟩)

/-- Queues at the blocks B, each in blocks of its own, of ops that may be. -/
structure Qs (B : List Nat) (FS : Nat → Nat → Prop) (w : World) (cont : Nat → List OpV) : Prop where
  q : ∀ b, b ∈ B → IsQ (FS b) w b (cont b)
  d : ∀ b b', b ∈ B → b' ∈ B → b ≠ b' → ∀ i, FS b i → FS b' i → False
  lt : ∀ b, b ∈ B → ∀ i, FS b i → i < w.heap.size
  ok : ∀ b, b ∈ B → ∀ o, o ∈ cont b → okOp o = true

theorem Qs.keep {B : List Nat} {FS : Nat → Nat → Prop} {w w' : World} {cont : Nat → List OpV} {T : Nat → Prop} (h : Qs B FS w cont) (hk : Keep w w' T) (hT : ∀ b, b ∈ B → ∀ i, FS b i → T i → False) : Qs B FS w' cont :=
  ⟨fun b hb => (h.q b hb).keep hk (hT b hb), h.d, fun b hb i hi => Nat.lt_of_lt_of_le (h.lt b hb i hi) hk.size, h.ok⟩

theorem Qs.set {B : List Nat} {FS : Nat → Nat → Prop} {w w' : World} {cont : Nat → List OpV} {b0 : Nat} {l : List OpV} (h : Qs B FS w cont) (hb0 : b0 ∈ B) (hq : IsQ (fun i => FS b0 i ∨ New w w' i) w' b0 l) (hk : Keep w w' (FS b0))
    (hok : ∀ o, o ∈ l → okOp o = true) : Qs B (fun b i => FS b i ∨ (b = b0 ∧ New w w' i)) w' (fun b => if b = b0 then l else cont b) := by
  refine ⟨fun b hb => ?_, fun b b' hb hb' hne i hi hi' => ?_, fun b hb i hi => ?_, fun b hb o ho => ?_⟩
  · by_cases e : b = b0
    · subst e
      rw [if_pos rfl]
      exact hq.mono (fun i h => h.elim .inl (fun h => .inr ⟨rfl, h⟩))
    · rw [if_neg e]
      exact ((h.q b hb).keep hk (h.d b b0 hb hb0 e)).mono (fun i h => .inl h)
  · rcases hi with hi | ⟨e, hi⟩
    · rcases hi' with hi' | ⟨e', hi'⟩
      · exact h.d b b' hb hb' hne i hi hi'
      · have := h.lt b hb i hi; have := hi'.1; omega
    · rcases hi' with hi' | ⟨e', hi'⟩
      · have := h.lt b' hb' i hi'; have := hi.1; omega
      · exact hne (e.trans e'.symm)
  · rcases hi with hi | ⟨_, hi⟩
    · exact Nat.lt_of_lt_of_le (h.lt b hb i hi) hk.size
    · exact hi.2
  · by_cases e : b = b0
    · rw [if_pos e] at ho
      exact hok o ho
    · rw [if_neg e] at ho
      exact h.ok b hb o ho

/-- One of them is left empty. -/
theorem Qs.clear {B : List Nat} {FS : Nat → Nat → Prop} {w : World} {cont : Nat → List OpV} {b0 : Nat} (h : Qs B FS w cont) (hb0 : b0 ∈ B) : Qs B FS (w.setCell ⟨b0, 0, none⟩ (.slice none 0 0)) (fun b => if b = b0 then [] else cont b) := by
  obtain ⟨a, n, c, h1, h2, h3, h4⟩ := h.q b0 hb0
  have hk : Keep w (w.setCell ⟨b0, 0, none⟩ (.slice none 0 0)) (FS b0) := (Keep.refl w (FS b0)).setCell (p := ⟨b0, 0, none⟩) (.inl h2) _
  refine ⟨fun b hb => ?_, h.d, fun b hb i hi => Nat.lt_of_lt_of_le (h.lt b hb i hi) hk.size, fun b hb o ho => ?_⟩
  · by_cases e : b = b0
    · subst e
      rw [if_pos rfl]
      exact ⟨none, 0, 0, h1.setCell 0 _, h2, Own.nil _ _ _ _, rfl, by decide⟩
    · rw [if_neg e]
      exact (h.q b hb).keep hk (h.d b b0 hb hb0 e)
  · by_cases e : b = b0
    · rw [if_pos e] at ho
      cases ho
    · rw [if_neg e] at ho
      exact h.ok b hb o ho

theorem Qs.same {B : List Nat} {FS : Nat → Nat → Prop} {w : World} {cont cont' : Nat → List OpV} (h : Qs B FS w cont) (he : ∀ b, b ∈ B → cont b = cont' b) : Qs B FS w cont' :=
  ⟨fun b hb => he b hb ▸ h.q b hb, h.d, h.lt, fun b hb o ho => h.ok b hb o (he b hb ▸ ho)⟩

theorem neq_ptr_any {P : Program} {tp te : TypeId} {j : TypeInfo} {w : World} {a b : Nat} {ca cb : Array Value} {ta tb : TypeId} (hp : P.underlying tp = some (.pointer te)) (hte : P.info? te = some j) (hsz : j.size ≠ 0)
    (ha : Blk w a ca ta) (hb : Blk w b cb tb) : (binOp .neq tp (.pointer (some ⟨a, 0, none⟩)) (.pointer (some ⟨b, 0, none⟩))).run P w = .ok (.bool (a != b)) w := by
  have h : ∀ d : Nat, (Op.equalIn (d + 1) tp (.pointer (some ⟨a, 0, none⟩)) (.pointer (some ⟨b, 0, none⟩))).run P w = .ok (a == b) w := fun d => by
    by_cases e : a = b
    · subst e
      simp [Op.equalIn, run_underlying hp, sizeOf, typeInfo, hte, run_sameAddr_same]
    · have e' : (a == b) = false := beq_eq_false_iff_ne.2 e
      have hne : (⟨a, 0, none⟩ : Addr) ≠ ⟨b, 0, none⟩ := fun h => e (by injection h)
      simp [Op.equalIn, run_underlying hp, sizeOf, typeInfo, hte, hsz, run_sameAddr_other w hne ha hb, e']
  simp only [binOp]
  simp [Op.equal, Op.maxDepth, h 9999, bne]

theorem queueInfo : ∃ j, Try.prog.info? 68 = some j ∧ j.size ≠ 0 := by
  obtain ⟨i, h1, _, h3, _⟩ := info_parts (P := Try.prog) (e := 68) (z := .agg #[.slice none 0 0]) (size := 1) (bytes := 24) (by kernel_rfl)
  exact ⟨i, h1, by omega⟩
theorem neq_ptr {w : World} {a b : Nat} {ca cb : Array Value} {ta tb : TypeId} (ha : Blk w a ca ta) (hb : Blk w b cb tb) :
    (binOp .neq 46 (.pointer (some ⟨a, 0, none⟩)) (.pointer (some ⟨b, 0, none⟩))).run Try.prog w = .ok (.bool (a != b)) w := by
  obtain ⟨j, h1, h2⟩ := queueInfo
  exact neq_ptr_any Try.underlying46 h1 h2 ha hb

/-- All that waits in some queues, one behind the other. -/
def allOf (cont : Nat → List OpV) (ps : List (Option Nat)) : List OpV := ps.flatMap (fun p => p.elim [] cont)
theorem allOf_snoc (cont : Nat → List OpV) (ps : List (Option Nat)) (k : Nat) (p : Option Nat) (h : ps[k]? = some p) : allOf cont (ps.take (k + 1)) = allOf cont (ps.take k) ++ p.elim [] cont := by
  rw [List.take_add_one, h]
  simp [allOf]
theorem allOf_take_le (cont : Nat → List OpV) (ps : List (Option Nat)) (k : Nat) : (allOf cont (ps.take k)).length ≤ (allOf cont ps).length := by
  have h : allOf cont ps = allOf cont (ps.take k) ++ allOf cont (ps.drop k) := by
    unfold allOf
    rw [← List.flatMap_append, List.take_append_drop]
  rw [h, List.length_append]
  omega

/-- What Join leaves: all was added and the others are empty; or it was too much, and nothing is changed. -/
def RetJoin (B : List Nat) (FS : Nat → Nat → Prop) (w : World) (bq : Nat) (ps : List (Option Nat)) (cont : Nat → List OpV) (en : Ending) (w' : World) : Prop :=
  ((cont bq).length + (allOf cont ps).length ≤ 10000 ∧ en = .returned (.int .i64 0) ∧ (∃ FS', Qs B FS' w' (fun b => if b = bq then cont bq ++ allOf cont ps else if some b ∈ ps then [] else cont b) ∧ ∀ b i, FS' b i → FS b i ∨ New w w' i) ∧
      Keep w w' (fun i => ∃ b, b ∈ B ∧ FS b i)) ∨
    (10000 < (cont bq).length + (allOf cont ps).length ∧ en = .returned (.int .i64 2) ∧ Keep w w' Nope)

def LoopJoin (w : World) (ps : List (Option Nat)) (cont : Nat → List OpV) (g : Nat) (v5 v13 : Value) (wr : World) : Prop :=
  ∃ (k n : Nat) (a : Option Addr) (c : Nat), g + k = ps.length ∧ v13 = .int .i64 k ∧ v5 = .slice a n c ∧ n ≤ 10000 ∧ n = (allOf cont (ps.take k)).length ∧ Own (New w wr) wr 45 7 (.slice a n c) n (flatOp (allOf cont (ps.take k))) ∧ Keep w wr Nope

def LoopJoin2 (B : List Nat) (FS FS' : Nat → Nat → Prop) (w w3 : World) (bq : Nat) (ps : List (Option Nat)) (cont : Nat → List OpV) (g : Nat) (v37 : Value) (wr : World) : Prop :=
  ∃ k : Nat, g + k = ps.length ∧ v37 = .int .i64 k ∧ Qs B FS' wr (fun b => if b = bq then cont bq ++ allOf cont ps else if some b ∈ ps.take k then [] else cont b) ∧ Keep w wr (fun i => ∃ b, b ∈ B ∧ FS b i) ∧ wr.heap.size = w3.heap.size

set_option maxHeartbeats 1000000 in
theorem q_join (B : List Nat) (FS : Nat → Nat → Prop) (Sp : Nat → Prop) (bq : Nat) (ps : List (Option Nat)) (cont : Nat → List OpV) (v : Value) (w : World) (hQ : Qs B FS w cont) (hq : bq ∈ B) (hps : ∀ b, some b ∈ ps → b ∈ B)
    (hv : Rd Sp w v ps.length (ps.map ptrTo)) (hSp : ∀ b, b ∈ B → ∀ i, FS b i → Sp i → False) (hSl : ∀ i, Sp i → i < w.heap.size) :
    Calls Try.prog 23 #[.pointer (some ⟨bq, 0, none⟩), v] w (RetJoin B FS w bq ps cont) := by
  obtain ⟨a, c, rfl, g1, g2, g3, g4⟩ := id hv
  have hlen : ps.length ≤ 9223372036854775807 := by unfold maxLen at g2; omega
  clear g1 g2 g3 g4
  have HQ := Lib.hid hQ; clear hQ
  have HV := Lib.hid hv; clear hv
  have HPS := Lib.hid hps; clear hps
  have HSP := Lib.hid hSp; clear hSp
  have HSL := Lib.hid hSl; clear hSl
  go_enter Try.func23, Try.ntmps23
  go_wp2_with fail
  go_loopg [5, 13] ps.length (fun g v5 v13 wr => LoopJoin w ps cont g v5 v13 wr)
  case atStart => exact ⟨0, 0, none, 0, rfl, rfl, rfl, by omega, rfl, Own.nil _ _ _ _, Keep.refl _ _⟩
  case round =>
    obtain ⟨k, n, a5, c5, hk, rfl, rfl, hn1, hn, ho, hkeep⟩ := hrel
    have hkl : k ≤ ps.length := by omega
    have HK := Lib.hid hk; clear hk
    have HN := Lib.hid hn; clear hn
    have HO := Lib.hid ho; clear ho
    have HP := Lib.hid hkeep; clear hkeep
    have hsz := HP.out.size
    by_cases hlt : k < ps.length
    · obtain ⟨p, hp⟩ : ∃ p, ps[k]? = some p := ⟨_, List.getElem?_eq_getElem hlt⟩
      have HS := Lib.hid (allOf_snoc cont ps k p hp)
      obtain ⟨bo, oo, rfl, hbo, hco⟩ := (HV.out.keep HP.out (fun _ _ f => f)).at (by simp; omega)
      have hc := hco k (by simpa using hlt)
      rw [List.getElem?_map, hp] at hc
      simp only [Option.map_some] at hc
      clear hco
      cases p with
      | none =>
        simp only [ptrTo] at hc
        clear hp
        go_wp2_with fail
        go_roundg (ps.length - (k + 1))
        case measure => have := HK.out; omega
        case rel => exact ⟨k + 1, n, a5, c5, by omega, by go_num, rfl, hn1, by rw [HS.out]; simpa using HN.out, by rw [HS.out]; simpa using HO.out, HP.out⟩
      | some b =>
        simp only [ptrTo] at hc
        have hbB := HPS.out b (List.mem_of_getElem? hp)
        clear hp
        obtain ⟨ab, nb, cb, q1, q2, q3, q4, q5⟩ := (HQ.out.keep HP.out (fun _ _ _ _ f => f)).q b hbB
        have hcb := q1.cell 0
        simp at hcb
        have Q3 := Lib.hid q3
        have Q4 := Lib.hid q4
        clear q1 q3 q4
        go_wp2_with (at_builtin; refine wpList_app (P := Try.prog) slOp rfl _ _ rfl (S := New w wr) (S2 := FS b) (n := n) (xs := flatOp (allOf cont (ps.take k))) (m := nb) (news := flatOp (cont b)) rfl rfl ?hown ?hx ?hl ?h1 ?h2 ?h3 ?_)
        case hown => exact HO.out
        case hx => exact Q3.out.rd
        case hl => rw [flatOp_len, Q4.out]
        case h1 => exact flatOp_one _
        case h2 => omega
        case h3 => unfold maxLen; omega
        rintro a' k' c2 w2 ⟨ho, hnum, hk2, _⟩
        have hs2 := hk2.size
        have HO2 := Lib.hid (ho.mono (T := New w w2) (fun i h => h.elim (fun h => ⟨h.1, by have := h.2; omega⟩) (fun h => ⟨by have := h.1; omega, h.2⟩)))
        have HP2 := Lib.hid (HP.out.trans hk2 (fun i h => .inr h.1))
        clear ho hk2
        have hkb : k' ≤ 20000 := by omega
        have HNum := Lib.hid hnum; clear hnum
        have HNN := Lib.hid (show k' = (allOf cont (ps.take (k + 1))).length by rw [HS.out, List.length_append, HNum.out, HN.out, Q4.out]; rfl)
        by_cases hbig : 10000 < k'
        · go_wp2_with fail
          go_ret
          refine .inr ⟨?_, rfl, HP2.out⟩
          have := allOf_take_le cont ps (k + 1)
          have := HNN.out
          omega
        · go_wp2_with fail
          go_roundg (ps.length - (k + 1))
          case measure => have := HK.out; omega
          case rel => exact ⟨k + 1, k', a', c2, by omega, by go_num, rfl, by omega, HNN.out, by rw [HS.out, flatOp_app]; exact HO2.out, HP2.out⟩
    · have hkl' : k = ps.length := by omega
      subst hkl'
      have ht := HO.out
      rw [List.take_length] at ht
      have HO' := Lib.hid ht; clear ht
      have hnn := HN.out
      rw [List.take_length] at hnn
      have HN' := Lib.hid hnn; clear hnn HN HO
      have HQ1 := Lib.hid (HQ.out.keep HP.out (fun _ _ _ _ f => f))
      have hall : (allOf cont ps).any (fun o => !okOp o) = false := by
        rw [List.any_eq_false]
        intro o ho
        obtain ⟨p, hp, hop⟩ := List.mem_flatMap.1 ho
        cases p with
        | none => cases hop
        | some b => simp [HQ.out.ok b (HPS.out b hp) o hop]
      have HALL := Lib.hid hall; clear hall
      have hrd : Rd (New w wr) wr (.slice a5 n c5) (allOf cont ps).length (flatOp (allOf cont ps)) := HN'.out ▸ HO'.out.rd
      have HRD := Lib.hid hrd; clear hrd
      by_cases htot : (cont bq).length + (allOf cont ps).length ≤ 10000
      · go_wp2_with fail
        refine (q_add (FS bq) _ bq (cont bq) (allOf cont ps) _ _ (HQ1.out.q bq hq) HRD.out HALL.out htot).mono ?_
        rintro e w3 ⟨rfl, hq3, hk3⟩
        have HTOT := Lib.hid htot; clear htot
        have HQ3 := Lib.hid (HQ1.out.set hq hq3 hk3 (fun o ho => by
          rcases List.mem_append.1 ho with h | h
          · exact HQ.out.ok bq hq o h
          · have := List.any_eq_false.1 HALL.out o h; simpa using this))
        have hs3 := hk3.size
        have HK3 := Lib.hid (HP.out.mono (T := fun i => ∃ b, b ∈ B ∧ FS b i) (fun i f => f.elim) |>.trans (hk3.mono (T := fun i => ∃ b, b ∈ B ∧ FS b i) (fun i h => .inl ⟨bq, hq, h⟩)) (fun i h => .inl h))
        clear hk3 hq3
        go_wp2_with fail
        go_loopg [37] ps.length (fun g v37 wx => LoopJoin2 B FS (fun b i => FS b i ∨ (b = bq ∧ New wr w3 i)) w w3 bq ps cont g v37 wx)
        case atStart => exact ⟨0, rfl, rfl, HQ3.out.same (fun b _ => by simp), HK3.out, rfl⟩
        case round =>
          obtain ⟨k, hk, rfl, hqs, hkeep, hsz2⟩ := hrel
          have hkl2 : k ≤ ps.length := by omega
          have HK := Lib.hid hk; clear hk
          have HQS := Lib.hid hqs; clear hqs
          have HP2 := Lib.hid hkeep; clear hkeep
          have HSZ := Lib.hid hsz2; clear hsz2
          by_cases hlt2 : k < ps.length
          · obtain ⟨p, hp⟩ : ∃ p, ps[k]? = some p := ⟨_, List.getElem?_eq_getElem hlt2⟩
            have HT := Lib.hid (show ps.take (k + 1) = ps.take k ++ [p] by rw [List.take_add_one, hp]; rfl)
            obtain ⟨bo, oo, rfl, hbo, hco⟩ := (HV.out.keep HP2.out (fun i h1 ⟨b, hb, h2⟩ => HSP.out b hb i h2 h1)).at (by simp; omega)
            have hc := hco k (by simpa using hlt2)
            rw [List.getElem?_map, hp] at hc
            simp only [Option.map_some] at hc
            clear hco
            cases p with
            | none =>
              simp only [ptrTo] at hc
              clear hp
              go_wp2_with fail
              go_roundg (ps.length - (k + 1))
              case measure => have := HK.out; omega
              case rel => exact ⟨k + 1, by omega, by go_num, HQS.out.same (fun b _ => by rw [HT.out]; simp), HP2.out, HSZ.out⟩
            | some b =>
              simp only [ptrTo] at hc
              have hbB := HPS.out b (List.mem_of_getElem? hp)
              clear hp
              obtain ⟨ab, nb, cb, q1, q2, _⟩ := HQS.out.q b hbB
              obtain ⟨aq, nq, cq, r1, _⟩ := HQS.out.q bq hq
              have hneq := neq_ptr q1 r1
              have hcb := q1.cell 0
              have hfb := q1.frozen 0
              simp at hcb
              clear q1 r1
              by_cases hbb : b = bq
              · subst hbb
                simp only [bne_self_eq_false] at hneq
                go_wp2_with fail
                go_roundg (ps.length - (k + 1))
                case measure => have := HK.out; omega
                case rel =>
                  refine ⟨k + 1, by omega, by go_num, HQS.out.same (fun b' _ => ?_), HP2.out, HSZ.out⟩
                  rw [HT.out]
                  by_cases e : b' = b
                  · simp [e]
                  · simp [e]
              · have hbn : (b != bq) = true := by rw [bne_iff_ne]; exact hbb
                rw [hbn] at hneq
                have HBB := Lib.hid hbb
                have HQ2 := Lib.hid q2
                clear hbn hbb q2
                go_wp2_with fail
                go_roundg (ps.length - (k + 1))
                case measure => have := HK.out; omega
                case rel =>
                  refine ⟨k + 1, by omega, by go_num, (HQS.out.clear hbB).same (fun b' _ => ?_), HP2.out.setCell (p := ⟨b, 0, none⟩) (.inl ⟨b, hbB, HQ2.out.elim id (fun h => (HBB.out h.1).elim)⟩) _, by rw [World.size_setCell]; exact HSZ.out⟩
                  rw [HT.out]
                  by_cases e : b' = b
                  · subst e
                    simp [HBB.out]
                  · simp [e]
          · have hkl' : k = ps.length := by omega
            subst hkl'
            go_wp2_with fail
            go_ret
            refine .inl ⟨HTOT.out, rfl, ⟨_, HQS.out.same (fun b _ => by rw [List.take_length]), fun b i h => h.elim .inl (fun h => .inr ⟨by have := h.2.1; omega, by have := h.2.2; have := HSZ.out; omega⟩)⟩, HP2.out⟩
      · have htot' : 10000 < (cont bq).length + (allOf cont ps).length := by omega
        go_wp2_with fail
        refine (q_add_many (FS bq) _ bq (cont bq) (allOf cont ps) _ _ (HQ1.out.q bq hq) HRD.out HALL.out htot').mono ?_
        rintro e w3 ⟨rfl, hk3⟩
        have HK3 := Lib.hid hk3; clear hk3
        go_wp2_with fail
        go_ret
        exact .inr ⟨htot', rfl, HP.out.trans HK3.out (fun _ f => f.elim)⟩
end Go.Proofs.Ytnadfefjmoibeaa
