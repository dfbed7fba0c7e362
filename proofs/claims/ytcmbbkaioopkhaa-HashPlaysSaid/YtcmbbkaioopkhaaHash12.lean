/-
  The document's table of slots: a put of a new index.
-/
import Derived.Test.YtcmbbkaioopkhaaHash11
namespace Go.Proofs.Ytcmbbkaioopkhaa
open Go Go.RowKit
set_option linter.unusedVariables false
set_option linter.unusedSimpArgs false

/-- A new table of slots. -/
theorem rh_box {w0 w w1 : World} {L : List Asr} (H : St w0 w L) (N : Nat) (hk : Keep w w1 Nope) (ho : Own (New w w1) w1 79 5 (.slice (some ⟨w.heap.size, 0, none⟩) N N) N (flatSl (List.replicate N emptyS))) :
    St w0 (w1.alloc (.cells #[.slice (some ⟨w.heap.size, 0, none⟩) N N] 94)) (L ++ [rhA w1.heap.size (List.replicate N emptyS)]) := by
  refine H.add (w' := w1.alloc _) (hk.alloc _) (A := rhA w1.heap.size (List.replicate N emptyS)) ⟨(some ⟨w.heap.size, 0, none⟩, N), ?_⟩
  have hs := hk.size
  refine ⟨fun j x => (j = 0 ∧ x = w1.heap.size) ∨ (j = 1 ∧ New w w1 x), fun j A hj => ?_, fun j x hx => ?_, fun j k x hj hk => ?_⟩
  · rcases j with _ | _ | j
    · cases hj
      rw [List.length_replicate]
      exact ⟨Blk.new w1 _ _, .inl ⟨rfl, rfl⟩⟩
    · cases hj
      rw [List.length_replicate]
      exact (ho.alloc _).mono (fun x hx => .inr ⟨rfl, hx⟩)
    · cases hj
  · rcases hx with ⟨_, rfl⟩ | ⟨_, hx⟩
    · exact ⟨hs, by simp⟩
    · exact ⟨hx.1, by have := hx.2; simp; omega⟩
  · rcases hj with ⟨rfl, rfl⟩ | ⟨rfl, hj⟩ <;> rcases hk with ⟨rfl, hk⟩ | ⟨rfl, hk⟩
    · rfl
    · have := hk.2; omega
    · subst hk; have := hj.2; omega
    · rfl
/-- One table is handed another one's slots. -/
theorem rh_move {w0 w : World} {L : List Asr} {b bo : Nat} {l T : List SlotV} (H : St w0 w L) (i k : Nat) (hi : L[i]? = some (rhA b l)) (hk : L[k]? = some (rhA bo T)) (hne : i ≠ k) :
    ∃ a c, w.cell? ⟨bo, 0, none⟩ = some (.slice a T.length c) ∧ (∃ v, w.cell? ⟨b, 0, none⟩ = some v) ∧ w.frozen? ⟨b, 0, none⟩ = false ∧ St w0 (w.setCell ⟨b, 0, none⟩ (.slice a T.length c)) ((L.set k empA).set i (rhA b T)) := by
  have hil := (List.getElem?_eq_some_iff.1 hi).1
  have hkl := (List.getElem?_eq_some_iff.1 hk).1
  obtain ⟨p, h1⟩ := H.exSplit i hi
  have hk2 : (rhPs b l p ++ L.set i empA)[2 + k]? = some (rhA bo T) := by
    rw [tail_get _ _ 2 k rfl, List.getElem?_set_ne hne]; exact hk
  obtain ⟨⟨a, c⟩, h2⟩ := h1.exSplit (2 + k) hk2
  rw [tail_set _ _ 2 k _ rfl] at h2
  unfold rhPs at h2
  simp only at h2
  have hb := h2.blk 2 (b := b) rfl
  have ho := h2.blk 0 (b := bo) rfl
  have h3 := h2.write 2 (b := b) rfl 0 (.slice a T.length c)
  refine ⟨a, c, by simpa using ho.cell 0, ⟨_, by simpa using hb.cell 0⟩, hb.frozen 0, ?_⟩
  refine St.exJoin (rhPs b T) (a, c) (L := L.set k empA) i (by simpa using hil) ?_
  refine h3.pick (fun j => if j = 0 then 2 else if j = 1 then 1 else j + 2) (fun j j' _ _ e => ?_) (fun j A hj => ?_)
  · by_cases e1 : j = 0 <;> by_cases e2 : j = 1 <;> by_cases e3 : j' = 0 <;> by_cases e4 : j' = 1 <;> simp [e1, e2, e3, e4] at e <;> omega
  · rcases j with _ | _ | j
    · exact hj
    · exact hj
    · rw [List.set_comm _ _ hne.symm] at hj
      exact hj

def LoopRG (w0 : World) (L : List Asr) (bo N n : Nat) (l : List SlotV) (g : Nat) (v16 : Value) (wr : World) : Prop :=
  ∃ k : Nat, g + k = n ∧ v16 = .int .i64 k ∧ St w0 wr (L ++ [rhA bo (rebK hmO N l k)])
theorem rebK_len {hm : Nat → Int → Nat} (N : Nat) (l : List SlotV) (k : Nat) : (rebK hm N l k).length = N := by
  unfold rebK
  generalize l.take k = t
  have : ∀ (t s : List SlotV), s.length = N → (t.foldl (addS hm) s).length = N := by
    intro t
    induction t with
    | nil => exact fun s h => h
    | cons x t ih =>
      intro s h
      refine ih _ ?_
      unfold addS
      split
      · rw [insS_length]; exact h
      · exact h
  exact this t _ (by simp)

set_option maxRecDepth 100000 in
set_option maxHeartbeats 4000000 in
theorem rh_put_new {w0 w : World} {L : List Asr} {b : Nat} {l : List SlotV} (H : St w0 w L) (i : Nat) (hi : L[i]? = some (rhA b l)) (hT : Tab hmO l) (hP : Pow l.length) (hl : l.length ≤ 262144) (x : Int) (h0 : 0 ≤ x) (h1 : x < 65536) (vk va vb : Int) (q : Int) (hf : findS hmO l x = (-1, q)) (hno : ∀ p, p < l.length → (sl l p).kind = 1 → (sl l p).idx ≠ x) :
    Calls Try.prog 29 #[.pointer (some ⟨b, 0, none⟩), .int .i64 x, .agg #[.int .i64 vk, .int .i64 va, .int .i64 vb]] w (fun e w' => (∃ v, e = .returned v) ∧ St w0 w' (L.set i (rhA b (insS hmO (growS hmO l) x vk va vb)))) := by
  have HIL := Lib.hid (List.getElem?_eq_some_iff.1 hi).1
  have hA := (H.box #[.int .i64 vk, .int .i64 va, .int .i64 vb] 67).box #[.int .i64 0, .int .i64 0, .int .i64 0] 67
  rw [World.size_alloc, List.append_assoc] at hA
  have hi2 : (L ++ ([blkA w.heap.size #[.int .i64 vk, .int .i64 va, .int .i64 vb] 67] ++ [blkA (w.heap.size + 1) #[.int .i64 0, .int .i64 0, .int .i64 0] 67]))[i]? = some (rhA b l) := by rw [List.getElem?_append_left HIL.out]; exact hi
  have hI := ref_index x ((w.alloc (.cells #[.int .i64 vk, .int .i64 va, .int .i64 vb] 67)).alloc (.cells #[.int .i64 0, .int .i64 0, .int .i64 0] 67))
  rw [decide_eq_true ⟨h0, h1⟩] at hI
  have HI := Lib.hid hI
  have hS := rh_seek hA i hi2 hT hP x h0 h1
  rw [hf] at hS
  unfold seekV at hS
  rw [if_neg (show ¬ (0 : Int) ≤ -1 by decide)] at hS
  have HS := Lib.hid hS
  have HI2 := Lib.hid hi2
  have HPL := Lib.hid hT.pos
  have HA := Lib.hid hA
  have h8 := hP.pos.1
  have hPN : Pow (newN l) := by
    unfold newN
    split
    · exact hP.twice (by omega)
    · exact hP
  obtain ⟨g1, g2, g3, g4, g5⟩ := hT.grow h8 hPN.home
  have hPG : Pow (growS hmO l).length := by rcases g5 with e | e <;> rw [e]; exact hP; exact hPN
  have hno2 : ∀ p, p < (growS hmO l).length → (sl (growS hmO l) p).kind = 1 → (sl (growS hmO l) p).idx ≠ x := by
    intro p hp hk he
    obtain ⟨p', a1, a2⟩ := (g4 x _ _ _).1 ⟨p, hp, (slot_eta _ hk).trans (by rw [he])⟩
    exact hno p' a1 (by rw [a2]) (by rw [a2])
  obtain ⟨q2, q1, qf, qk, qe, _⟩ := g1.ins ⟨h0, h1⟩ vk va vb hno2 g3
  have HG1 := Lib.hid g1
  have HPG := Lib.hid hPG
  have HQ := Lib.hid (show q2 < (growS hmO l).length ∧ findS hmO (growS hmO l) x = (-1, (q2 : Int)) ∧ insS hmO (growS hmO l) x vk va vb = (growS hmO l).set q2 ⟨1, x, vk, va, vb⟩ from ⟨q1, qf, qe⟩)
  have HT := Lib.hid hT
  have HP := Lib.hid hP
  have hcl1 := cntK_le 1 l
  have hcl2 := cntK_le 2 l
  have HRM := Lib.hid hT.room
  obtain ⟨T, hTT⟩ : ∃ T, growS hmO l = T := ⟨_, rfl⟩
  rw [hTT] at HG1 HPG HQ ⊢
  obtain ⟨n, hn⟩ : ∃ n, l.length = n := ⟨_, rfl⟩
  obtain ⟨cf, hcf⟩ : ∃ cf, cntK 1 l = cf := ⟨_, rfl⟩
  obtain ⟨ct, hct⟩ : ∃ ct, cntK 2 l = ct := ⟨_, rfl⟩
  have hNN : newN l = if 2 * (cf + 1) > n then 2 * n else n := by unfold newN; rw [hcf, hn]
  have hGG : T = if 4 * (cf + ct + 1) ≤ 3 * n then l else rebK hmO (newN l) l n := by rw [← hTT]; unfold growS; rw [hcf, hct, hn]
  rw [hn] at hl hcl1 hcl2
  rw [hcf] at hcl1
  rw [hct] at hcl2
  have HN := Lib.hid hn
  have HCF := Lib.hid hcf
  have HCT := Lib.hid hct
  clear H hi hA hi2 hI hS hf hno g1 g2 g3 g4 g5 hPG hno2 q1 qf qk qe hT hP hcf hct h8 hn hTT
  go_enter Try.func29, Try.ntmps29
  go_wp2_with fail
  refine (HI.out).mono ?_
  rintro e w2 ⟨rfl, rfl⟩
  clear HI
  go_wp2_with fail
  refine (HS.out).mono ?_
  rintro e w3 ⟨rfl, hk3⟩
  have H3 := Lib.hid (HA.out.keep hk3); clear hk3 HS HA
  go_upto_region 8 with (fail)
  obtain ⟨g, c, ho⟩ := rh_open H3.out i HI2.out HPL.out
  have c2 := ho.ptr
  rw [HN.out] at c2
  clear ho
  obtain ⟨cn, hcn⟩ : ∃ cn : Int → Nat, ∀ k, cntK k l = cn k := ⟨fun k => cntK k l, fun _ => rfl⟩
  have HC1 := Lib.hid (fun m k => rh_count (H3.out.drewN m) i HI2.out (by have := HN.out; omega) k)
  simp only [hcn] at HC1
  have HE1 := Lib.hid ((hcn 1).symm.trans HCF.out)
  have HE2 := Lib.hid ((hcn 2).symm.trans HCT.out)
  clear hcn
  go_quiet ((go_at_call 46; exact Calls.quiet_of_same ((HC1.out _ _).mono (fun _ _ h => ⟨h.1, h.2.symm⟩))))
  rw [HE1.out, HE2.out]
  generalize hq4 : w3.drewN _ = w4
  have H4 := Lib.hid (hq4 ▸ H3.out.drewN _)
  clear hq4 H3 HC1 HE1 HE2 c2
  by_cases hroom : 4 * (cf + ct + 1) ≤ 3 * n
  · rw [if_pos hroom] at hGG
    have HTE := Lib.hid hGG
    have hroom' : ¬ (3 * (n : Int) < 4 * ((cf : Int) + ct + 1)) := by omega
    have H5 : Hid (St w0 w4 (L.set i (rhA b T) ++ ([blkA w.heap.size #[.int .i64 vk, .int .i64 va, .int .i64 vb] 67] ++ [blkA (w.heap.size + 1) #[.int .i64 0, .int .i64 0, .int .i64 0] 67]))) := by
      rw [HTE.out, ← List.set_append_left _ _ HIL.out, set_same _ _ _ HI2.out]
      exact H4
    clear hNN hGG H4 HTE HT HP HI2
    go_upto_region 22 with (fail)
    obtain ⟨m, hm⟩ : ∃ m, T.length = m := ⟨_, rfl⟩
    have HM := Lib.hid hm
    have hS2 := rh_seek H5.out i (by rw [List.getElem?_append_left (by simpa using HIL.out), List.getElem?_set_self HIL.out]) HG1.out HPG.out x h0 h1
    rw [HQ.out.2.1] at hS2
    unfold seekV at hS2
    rw [if_neg (show ¬ (0 : Int) ≤ -1 by decide)] at hS2
    have HS2 := Lib.hid hS2
    have hqm : (q2 : Int) < m := by have := HQ.out.1; omega
    have hmb : m ≤ 1048576 := by have := HPG.out.pos; omega
    clear hS2 hm
    go_wp2_with fail
    refine (HS2.out).mono ?_
    rintro e w7 ⟨rfl, hk7⟩
    have H7 := Lib.hid (H5.out.keep hk7)
    clear hk7 H5 HS2
    go_upto_region 23 with (fail)
    obtain ⟨g3, c3, ho⟩ := rh_open H7.out i (by rw [List.getElem?_append_left (by simpa using HIL.out), List.getElem?_set_self HIL.out]) (by have := HPG.out.pos; omega)
    obtain ⟨y0, y1, y2, y3, y4⟩ := ho.cell q2 HQ.out.1
    have cp3 := ho.ptr
    have hcap3 := ho.cap
    rw [HM.out] at hcap3 cp3
    unfold maxLen at hcap3
    have z0 := ho.frz (q2 * 5)
    have z1 := ho.frz (q2 * 5 + 1)
    have z2 := ho.frz (q2 * 5 + 2)
    have z3 := ho.frz (q2 * 5 + 3)
    have z4 := ho.frz (q2 * 5 + 4)
    have h9 := ho.put q2 HQ.out.1 1 x vk va vb
    rw [List.set_append_left _ _ (by simpa using HIL.out), List.set_set, ← HQ.out.2.2] at h9
    clear ho
    have hbb := H7.out.blk (L.length + 0) (b := w.heap.size) (tail_get _ _ _ 0 (by simp))
    have t0 := hbb.cell 0
    have t1 := hbb.cell 1
    have t2 := hbb.cell 2
    simp at t0 t1 t2
    clear hbb
    refine wp_region_M (r := 8) (S := fun w' => w'.cell? ⟨b, 0, none⟩ = some (.slice (some ⟨g3, 0, none⟩) m c3) ∧ w'.cell? ⟨w.heap.size, 0, none⟩ = some (.int .i64 vk) ∧ w'.cell? ⟨w.heap.size, 1, none⟩ = some (.int .i64 va) ∧ w'.cell? ⟨w.heap.size, 2, none⟩ = some (.int .i64 vb)) (by kernel_rfl) ?_ (fun hHeld => ?_)
    · (try dsimp only); go_keep
    (refine wpAnyM_takeP (i := 0) (oi := ?_) (v := ?_) ?_ ?_ ?_ ?_ ?_ ?_ ?_ ?_ ?_; rotate_left 2; (· simp only [List.getElem?_toArray, List.getElem?_cons_succ, List.getElem?_cons_zero]; exact rfl); (· kernel_rfl); (· kernel_rfl); (· kernel_rfl); (· kernel_rfl); (· first | exact fun _ _ _ h => h | exact fun _ _ _ h => (HPan.out _ _ _ h).elim); (· (refine Or.inl ⟨by rfl, ?_⟩; (intro w hSw; (try dsimp only at hSw); go_simp) <;> with_reducible rfl)); (· exact fun _ => hHeld); simp only [Act.put, List.setIfInBounds_toArray, List.set_cons_zero, List.set_cons_succ])
    (refine wpAnyM_takeP (i := 1) (oi := ?_) (v := ?_) ?_ ?_ ?_ ?_ ?_ ?_ ?_ ?_ ?_; rotate_left 2; (· simp only [List.getElem?_toArray, List.getElem?_cons_succ, List.getElem?_cons_zero]; exact rfl); (· kernel_rfl); (· kernel_rfl); (· kernel_rfl); (· kernel_rfl); (· first | exact fun _ _ _ h => h | exact fun _ _ _ h => (HPan.out _ _ _ h).elim); (· (refine Or.inl ⟨by rfl, ?_⟩; (intro w hSw; (try dsimp only at hSw); go_simp) <;> with_reducible rfl)); (· exact fun _ => hHeld); simp only [Act.put, List.setIfInBounds_toArray, List.set_cons_zero, List.set_cons_succ])
    (refine wpAnyM_takeP (i := 2) (oi := ?_) (v := ?_) ?_ ?_ ?_ ?_ ?_ ?_ ?_ ?_ ?_; rotate_left 2; (· simp only [List.getElem?_toArray, List.getElem?_cons_succ, List.getElem?_cons_zero]; exact rfl); (· kernel_rfl); (· kernel_rfl); (· kernel_rfl); (· kernel_rfl); (· first | exact fun _ _ _ h => h | exact fun _ _ _ h => (HPan.out _ _ _ h).elim); (· (refine Or.inl ⟨by rfl, ?_⟩; (intro w hSw; (try dsimp only at hSw); go_simp) <;> with_reducible rfl)); (· exact fun _ => hHeld); simp only [Act.put, List.setIfInBounds_toArray, List.set_cons_zero, List.set_cons_succ])
    (refine wpAnyM_take (i := 3) (oi := ?_) (v := ?_) ?_ ?_ ?_ ?_ ?_ ?_ ?_ ?_ ?_ ?_; rotate_left 2; (· simp only [List.getElem?_toArray, List.getElem?_cons_succ, List.getElem?_cons_zero]; exact rfl); (· kernel_rfl); (· kernel_rfl); (· kernel_rfl); (· kernel_rfl); (· kernel_rfl); (· first | exact fun _ _ _ h => h | exact fun _ _ _ h => (HPan.out _ _ _ h).elim); (· (refine Or.inl ⟨by rfl, ?_⟩; (intro w hSw; (try dsimp only at hSw); go_simp) <;> with_reducible rfl)); (· assumption); simp only [Act.put, List.setIfInBounds_toArray, List.set_cons_zero, List.set_cons_succ])
    (refine wpAnyM_takeP (i := 4) (oi := ?_) (v := ?_) ?_ ?_ ?_ ?_ ?_ ?_ ?_ ?_ ?_; rotate_left 2; (· simp only [List.getElem?_toArray, List.getElem?_cons_succ, List.getElem?_cons_zero]; exact rfl); (· kernel_rfl); (· kernel_rfl); (· kernel_rfl); (· kernel_rfl); (· first | exact fun _ _ _ h => h | exact fun _ _ _ h => (HPan.out _ _ _ h).elim); (· (refine Or.inl ⟨by rfl, ?_⟩; (intro w hSw; (try dsimp only at hSw); go_simp) <;> with_reducible rfl)); (· exact fun _ => hHeld); simp only [Act.put, List.setIfInBounds_toArray, List.set_cons_zero, List.set_cons_succ])
    (refine wpAnyM_takeP (i := 5) (oi := ?_) (v := ?_) ?_ ?_ ?_ ?_ ?_ ?_ ?_ ?_ ?_; rotate_left 2; (· simp only [List.getElem?_toArray, List.getElem?_cons_succ, List.getElem?_cons_zero]; exact rfl); (· kernel_rfl); (· kernel_rfl); (· kernel_rfl); (· kernel_rfl); (· first | exact fun _ _ _ h => h | exact fun _ _ _ h => (HPan.out _ _ _ h).elim); (· (refine Or.inl ⟨by rfl, ?_⟩; (intro w hSw; (try dsimp only at hSw); go_simp) <;> with_reducible rfl)); (· exact fun _ => hHeld); simp only [Act.put, List.setIfInBounds_toArray, List.set_cons_zero, List.set_cons_succ])
    (refine wpAnyM_take (i := 6) (oi := ?_) (v := ?_) ?_ ?_ ?_ ?_ ?_ ?_ ?_ ?_ ?_ ?_; rotate_left 2; (· simp only [List.getElem?_toArray, List.getElem?_cons_succ, List.getElem?_cons_zero]; exact rfl); (· kernel_rfl); (· kernel_rfl); (· kernel_rfl); (· kernel_rfl); (· kernel_rfl); (· first | exact fun _ _ _ h => h | exact fun _ _ _ h => (HPan.out _ _ _ h).elim); (· (refine Or.inl ⟨by rfl, ?_⟩; (intro w hSw; (try dsimp only at hSw); go_simp) <;> with_reducible rfl)); (· assumption); simp only [Act.put, List.setIfInBounds_toArray, List.set_cons_zero, List.set_cons_succ])
    (refine wpAnyM_takeP (i := 7) (oi := ?_) (v := ?_) ?_ ?_ ?_ ?_ ?_ ?_ ?_ ?_ ?_; rotate_left 2; (· simp only [List.getElem?_toArray, List.getElem?_cons_succ, List.getElem?_cons_zero]; exact rfl); (· kernel_rfl); (· kernel_rfl); (· kernel_rfl); (· kernel_rfl); (· first | exact fun _ _ _ h => h | exact fun _ _ _ h => (HPan.out _ _ _ h).elim); (· (refine Or.inl ⟨by rfl, ?_⟩; (intro w hSw; (try dsimp only at hSw); go_simp) <;> with_reducible rfl)); (· exact fun _ => hHeld); simp only [Act.put, List.setIfInBounds_toArray, List.set_cons_zero, List.set_cons_succ])
    refine wpAnyM_ready (rs := [8]) (by kernel_rfl) (by simp) ?_
    refine AllReadyM.free (o := ?_) ?_ (by kernel_rfl) ?_ ?_
    rotate_left 1
    · simp only [List.getElem?_toArray, List.getElem?_cons_succ, List.getElem?_cons_zero]; exact rfl
    rotate_left 1
    · exact AllReadyM.nil
    intro K hK
    go_simp
    refine hK.out _ _ ?_
    clear hK K
    refine wpAnyM_ready (rs := [9]) (by kernel_rfl) (by simp) ?_
    refine AllReadyM.free (o := ?_) ?_ (by kernel_rfl) ?_ ?_
    rotate_left 1
    · simp only [List.getElem?_toArray, List.getElem?_cons_succ, List.getElem?_cons_zero]; exact rfl
    rotate_left 1
    · exact AllReadyM.nil
    intro K hK
    go_simp
    refine hK.out _ _ ?_
    clear hK K
    refine wpAnyM_done (by kernel_rfl) ?_ _
    obtain ⟨w8, hw8⟩ : ∃ w8, w8 = (((((w7.setCell ⟨g3, q2 * 5, none⟩ (.int .i64 1)).setCell ⟨g3, q2 * 5 + 1, none⟩ (.int .i64 x)).setCell ⟨g3, q2 * 5 + 2, none⟩ (.int .i64 vk)).setCell ⟨g3, q2 * 5 + 3, none⟩ (.int .i64 va)).setCell ⟨g3, q2 * 5 + 4, none⟩ (.int .i64 vb)).drew := ⟨_, rfl⟩
    have H9 := Lib.hid (hw8 ▸ h9.drew)
    rw [← hw8]
    clear h9 hw8 y0 y1 y2 y3 y4 z0 z1 z2 z3 z4 cp3 t0 t1 t2 hHeld H7
    have hb := H9.out.blk (L.length + 1) (b := w.heap.size + 1) (tail_get _ _ _ 1 (by simp))
    have e0 := hb.cell 0
    have e1 := hb.cell 1
    have e2 := hb.cell 2
    have f0 := hb.frozen 0
    have f1 := hb.frozen 1
    have f2 := hb.frozen 2
    simp at e0 e1 e2
    have HB := Lib.hid hb
    clear hb
    go_wp2_with fail
    have hb5 := ((HB.out.setCell 0 (.int .i64 0)).setCell 1 (.int .i64 0)).setCell 2 (.int .i64 0)
    have e0 := hb5.cell 0
    have e1 := hb5.cell 1
    have e2 := hb5.cell 2
    simp at e0 e1 e2
    have HE := Lib.hid (H9.out.res3 (k := 1) (b := w.heap.size + 1) rfl (.int .i64 0) (.int .i64 0) (.int .i64 0))
    refine bodyPost_ret (v := .tuple #[.agg #[.int .i64 0, .int .i64 0, .int .i64 0], .bool false]) (by simp [results, Try.results29, go_sem, e0, e1, e2]) rfl ⟨⟨_, rfl⟩, HE.out⟩
  · rw [if_neg hroom] at hGG
    have hroom' : (3 * (n : Int) < 4 * ((cf : Int) + ct + 1)) := by omega
    obtain ⟨N, hN⟩ : ∃ N, newN l = N := ⟨_, rfl⟩
    rw [hN] at hNN hGG
    have HTE := Lib.hid hGG
    have HNW := Lib.hid hN
    have HRR := Lib.hid hroom
    clear hGG hN hroom hPN
    by_cases h2 : 2 * (cf + 1) > n
    all_goals
      first
      | (rw [if_pos h2] at hNN)
      | (rw [if_neg h2] at hNN)
      first
      | have h2' : (n : Int) < 2 * ((cf : Int) + 1) := by omega
      | have h2' : ¬ (n : Int) < 2 * ((cf : Int) + 1) := by omega
      have hN2 : N ≤ 1048576 := by omega
      first
      | (have HNI := Lib.hid (show (N : Int) = 2 * (n : Int) by omega)
         have HNP : Hid (Pow N) := Lib.hid (hNN ▸ ((HN.out ▸ HP.out : Pow n).twice (by omega))))
      | (have HNI := Lib.hid (show (N : Int) = (n : Int) by omega)
         have HNP : Hid (Pow N) := Lib.hid (hNN ▸ (HN.out ▸ HP.out : Pow n)))
      have HR4 : Hid (4 * cntK 1 l ≤ 3 * N) := Lib.hid (by
        have := HRM.out
        rw [HN.out] at this
        omega)
      clear hNN HRM
      obtain ⟨w5, hmk, hown, hk5⟩ := run_make_slots w4 N (by omega)
      have hbx := rh_box H4.out N hk5 hown
      have HBX := Lib.hid hbx
      obtain ⟨gn, hgn⟩ : ∃ gn, w4.heap.size = gn := ⟨_, rfl⟩
      rw [hgn] at hmk HBX
      rw [HNI.out] at hmk
      clear hbx hown hk5 hgn H4
      go_upto_region 14 with (fail)
      obtain ⟨bo, hbo⟩ : ∃ bo, w5.heap.size = bo := ⟨_, rfl⟩
      rw [hbo] at HBX
      rw [hbo]
      obtain ⟨w6, hw6⟩ : ∃ w6, w6 = w5.alloc (.cells #[.slice (some ⟨gn, 0, none⟩) N N] 94) := ⟨_, rfl⟩
      rw [← hw6] at HBX ⊢
      clear hw6 hmk hbo
      have H6 : Hid (St w0 w6 ((L ++ ([blkA w.heap.size #[.int .i64 vk, .int .i64 va, .int .i64 vb] 67] ++ [blkA (w.heap.size + 1) #[.int .i64 0, .int .i64 0, .int .i64 0] 67])) ++ [rhA bo (rebK hmO N l 0)])) := HBX
      clear HBX
      obtain ⟨L1, hL1⟩ : ∃ L1, L1 = L ++ ([blkA w.heap.size #[.int .i64 vk, .int .i64 va, .int .i64 vb] 67] ++ [blkA (w.heap.size + 1) #[.int .i64 0, .int .i64 0, .int .i64 0] 67]) := ⟨_, rfl⟩
      rw [← hL1] at H6 HI2
      have HL1 := Lib.hid hL1
      have HIL1 := Lib.hid (List.getElem?_eq_some_iff.1 HI2.out).1
      have HREB := Lib.hid (fun k hk => Reb.all (n := N) HT.out (by have := HNP.out.pos; omega) HNP.out.home HR4.out k hk)
      clear hL1
      go_wp2_with fail
      go_loopg [16] n (fun g v16 wr => LoopRG w0 L1 bo N n l g v16 wr)
      case atStart => exact ⟨0, by omega, rfl, H6.out⟩
      case round =>
        obtain ⟨k, hk, rfl, hst⟩ := hrel
        clear H6
        have hkn : k ≤ n := by omega
        have HK := Lib.hid hk; clear hk
        have H := Lib.hid hst; clear hst
        by_cases hlt : k < n
        · obtain ⟨gs, cs, ho⟩ := rh_open H.out i (by rw [List.getElem?_append_left HIL1.out]; exact HI2.out) HPL.out
          obtain ⟨y0, y1, y2, y3, y4⟩ := ho.cell k (by rw [HN.out]; exact hlt)
          have c2 := ho.ptr
          have hcap := ho.cap
          rw [HN.out] at c2 hcap
          unfold maxLen at hcap
          have hsc := rebK_succ (hm := hmO) N l k (by rw [HN.out]; exact hlt)
          have hR := HREB.out k (by rw [HN.out]; omega)
          have hnx := fun h1 => Reb.next HT.out (n := N) HR4.out hR (by rw [HN.out]; exact hlt) h1
          obtain ⟨s, hs⟩ : ∃ s, sl l k = s := ⟨_, rfl⟩
          rw [hs] at y0 y1 y2 y3 y4 hsc hnx
          clear hs ho
          obtain ⟨kind, idx, uk, ua, ub⟩ := s
          simp only at y0 y1 y2 y3 y4
          have hki : (k : Int) < n := by omega
          have hkd0 : decide ((k : Int) < n) = true := decide_eq_true hki
          by_cases hk1 : kind = 1
          · subst hk1
            obtain ⟨⟨i0, i1⟩, n2, n3⟩ := hnx rfl
            obtain ⟨q, q1, q2, q3, q4, q5, q6, q7, q8⟩ := hR.tab.ins ⟨i0, i1⟩ uk ua ub n2 n3
            have hsc2 : rebK hmO N l (k + 1) = (rebK hmO N l k).set q ⟨1, idx, uk, ua, ub⟩ := by rw [hsc]; unfold addS; rw [if_pos rfl]; exact q4
            have HSC := Lib.hid hsc2
            have h7 := H.out.box #[.int .i64 1, .int .i64 idx, .int .i64 uk, .int .i64 ua, .int .i64 ub] 79
            rw [List.append_assoc] at h7
            have hgo : (L1 ++ ([rhA bo (rebK hmO N l k)] ++ [blkA wr.heap.size #[.int .i64 1, .int .i64 idx, .int .i64 uk, .int .i64 ua, .int .i64 ub] 79]))[L1.length]? = some (rhA bo (rebK hmO N l k)) := by simp
            have hS := rh_seek h7 L1.length hgo hR.tab (by rw [hR.len]; exact HNP.out) idx i0 i1
            rw [q2] at hS
            unfold seekV at hS
            rw [if_neg (show ¬ (0 : Int) ≤ -1 by decide)] at hS
            have HS := Lib.hid hS
            have H7 := Lib.hid h7
            have HGO := Lib.hid hgo
            have HQ1 := Lib.hid q1
            have hqN : q < N := by rw [hR.len] at q1; exact q1
            clear hsc hnx hR n2 n3 q1 q2 q3 q4 q5 q6 q7 q8 hsc2 hS h7 hgo
            go_wp2_with fail
            refine (HS.out).mono ?_
            rintro e w9 ⟨rfl, hk9⟩
            have H9 := Lib.hid (H7.out.keep hk9)
            clear hk9 H7 HS y0 y1 y2 y3 y4 c2
            obtain ⟨bs, hbs⟩ : ∃ bs, wr.heap.size = bs := ⟨_, rfl⟩
            rw [hbs] at H9 HGO
            rw [hbs]
            go_upto_region 20 with (fail)
            obtain ⟨go, co, ho⟩ := rh_open H9.out L1.length HGO.out (by rw [rebK_len]; have := HNP.out.pos; omega)
            obtain ⟨y0, y1, y2, y3, y4⟩ := ho.cell q HQ1.out
            have cp := ho.ptr
            have hcap2 := ho.cap
            rw [rebK_len] at hcap2 cp
            unfold maxLen at hcap2
            have z0 := ho.frz (q * 5)
            have z1 := ho.frz (q * 5 + 1)
            have z2 := ho.frz (q * 5 + 2)
            have z3 := ho.frz (q * 5 + 3)
            have z4 := ho.frz (q * 5 + 4)
            have h5 := ho.put q HQ1.out 1 idx uk ua ub
            rw [← HSC.out] at h5
            clear ho
            have hbb := H9.out.blk (L1.length + 1) (b := bs) (tail_get _ _ _ 1 rfl)
            have t0 := hbb.cell 0
            have t1 := hbb.cell 1
            have t2 := hbb.cell 2
            have t3 := hbb.cell 3
            have t4 := hbb.cell 4
            simp at t0 t1 t2 t3 t4
            have hqi : (q : Int) < N := by omega
            clear hbb
            refine wp_region_M (r := 6) (S := fun w' => w'.cell? ⟨bo, 0, none⟩ = some (.slice (some ⟨go, 0, none⟩) N co) ∧ w'.cell? ⟨bs, 0, none⟩ = some (.int .i64 1) ∧ w'.cell? ⟨bs, 1, none⟩ = some (.int .i64 idx) ∧ w'.cell? ⟨bs, 2, none⟩ = some (.int .i64 uk) ∧ w'.cell? ⟨bs, 3, none⟩ = some (.int .i64 ua) ∧ w'.cell? ⟨bs, 4, none⟩ = some (.int .i64 ub)) (by kernel_rfl) ?_ (fun hHeld => ?_)
            · (try dsimp only); go_keep
            (refine wpAnyM_takeP (i := 0) (oi := ?_) (v := ?_) ?_ ?_ ?_ ?_ ?_ ?_ ?_ ?_ ?_; rotate_left 2; (· simp only [List.getElem?_toArray, List.getElem?_cons_succ, List.getElem?_cons_zero]; exact rfl); (· kernel_rfl); (· kernel_rfl); (· kernel_rfl); (· kernel_rfl); (· first | exact fun _ _ _ h => h | exact fun _ _ _ h => (HPan.out _ _ _ h).elim); (· (refine Or.inl ⟨by rfl, ?_⟩; (intro w hSw; (try dsimp only at hSw); go_simp) <;> with_reducible rfl)); (· exact fun _ => hHeld); simp only [Act.put, List.setIfInBounds_toArray, List.set_cons_zero, List.set_cons_succ])
            (refine wpAnyM_takeP (i := 1) (oi := ?_) (v := ?_) ?_ ?_ ?_ ?_ ?_ ?_ ?_ ?_ ?_; rotate_left 2; (· simp only [List.getElem?_toArray, List.getElem?_cons_succ, List.getElem?_cons_zero]; exact rfl); (· kernel_rfl); (· kernel_rfl); (· kernel_rfl); (· kernel_rfl); (· first | exact fun _ _ _ h => h | exact fun _ _ _ h => (HPan.out _ _ _ h).elim); (· (refine Or.inl ⟨by rfl, ?_⟩; (intro w hSw; (try dsimp only at hSw); go_simp) <;> with_reducible rfl)); (· exact fun _ => hHeld); simp only [Act.put, List.setIfInBounds_toArray, List.set_cons_zero, List.set_cons_succ])
            (refine wpAnyM_takeP (i := 2) (oi := ?_) (v := ?_) ?_ ?_ ?_ ?_ ?_ ?_ ?_ ?_ ?_; rotate_left 2; (· simp only [List.getElem?_toArray, List.getElem?_cons_succ, List.getElem?_cons_zero]; exact rfl); (· kernel_rfl); (· kernel_rfl); (· kernel_rfl); (· kernel_rfl); (· first | exact fun _ _ _ h => h | exact fun _ _ _ h => (HPan.out _ _ _ h).elim); (· (refine Or.inl ⟨by rfl, ?_⟩; (intro w hSw; (try dsimp only at hSw); go_simp) <;> with_reducible rfl)); (· exact fun _ => hHeld); simp only [Act.put, List.setIfInBounds_toArray, List.set_cons_zero, List.set_cons_succ])
            (refine wpAnyM_take (i := 3) (oi := ?_) (v := ?_) ?_ ?_ ?_ ?_ ?_ ?_ ?_ ?_ ?_ ?_; rotate_left 2; (· simp only [List.getElem?_toArray, List.getElem?_cons_succ, List.getElem?_cons_zero]; exact rfl); (· kernel_rfl); (· kernel_rfl); (· kernel_rfl); (· kernel_rfl); (· kernel_rfl); (· first | exact fun _ _ _ h => h | exact fun _ _ _ h => (HPan.out _ _ _ h).elim); (· (refine Or.inl ⟨by rfl, ?_⟩; (intro w hSw; (try dsimp only at hSw); go_simp) <;> with_reducible rfl)); (· assumption); simp only [Act.put, List.setIfInBounds_toArray, List.set_cons_zero, List.set_cons_succ])
            (refine wpAnyM_takeP (i := 4) (oi := ?_) (v := ?_) ?_ ?_ ?_ ?_ ?_ ?_ ?_ ?_ ?_; rotate_left 2; (· simp only [List.getElem?_toArray, List.getElem?_cons_succ, List.getElem?_cons_zero]; exact rfl); (· kernel_rfl); (· kernel_rfl); (· kernel_rfl); (· kernel_rfl); (· first | exact fun _ _ _ h => h | exact fun _ _ _ h => (HPan.out _ _ _ h).elim); (· (refine Or.inl ⟨by rfl, ?_⟩; (intro w hSw; (try dsimp only at hSw); go_simp) <;> with_reducible rfl)); (· exact fun _ => hHeld); simp only [Act.put, List.setIfInBounds_toArray, List.set_cons_zero, List.set_cons_succ])
            (refine wpAnyM_take (i := 5) (oi := ?_) (v := ?_) ?_ ?_ ?_ ?_ ?_ ?_ ?_ ?_ ?_ ?_; rotate_left 2; (· simp only [List.getElem?_toArray, List.getElem?_cons_succ, List.getElem?_cons_zero]; exact rfl); (· kernel_rfl); (· kernel_rfl); (· kernel_rfl); (· kernel_rfl); (· kernel_rfl); (· first | exact fun _ _ _ h => h | exact fun _ _ _ h => (HPan.out _ _ _ h).elim); (· (refine Or.inl ⟨by rfl, ?_⟩; (intro w hSw; (try dsimp only at hSw); go_simp) <;> with_reducible rfl)); (· assumption); simp only [Act.put, List.setIfInBounds_toArray, List.set_cons_zero, List.set_cons_succ])
            refine wpAnyM_ready (rs := [6]) (by kernel_rfl) (by simp) ?_
            refine AllReadyM.free (o := ?_) ?_ (by kernel_rfl) ?_ ?_
            rotate_left 1
            · simp only [List.getElem?_toArray, List.getElem?_cons_succ, List.getElem?_cons_zero]; exact rfl
            rotate_left 1
            · exact AllReadyM.nil
            intro K hK
            go_simp
            refine hK.out _ _ ?_
            clear hK K
            refine wpAnyM_ready (rs := [7]) (by kernel_rfl) (by simp) ?_
            refine AllReadyM.free (o := ?_) ?_ (by kernel_rfl) ?_ ?_
            rotate_left 1
            · simp only [List.getElem?_toArray, List.getElem?_cons_succ, List.getElem?_cons_zero]; exact rfl
            rotate_left 1
            · exact AllReadyM.nil
            intro K hK
            go_simp
            refine hK.out _ _ ?_
            clear hK K
            refine wpAnyM_done (by kernel_rfl) ?_ _
            obtain ⟨w10, hw10⟩ : ∃ w10, w10 = (((((w9.setCell ⟨go, q * 5, none⟩ (.int .i64 1)).setCell ⟨go, q * 5 + 1, none⟩ (.int .i64 idx)).setCell ⟨go, q * 5 + 2, none⟩ (.int .i64 uk)).setCell ⟨go, q * 5 + 3, none⟩ (.int .i64 ua)).setCell ⟨go, q * 5 + 4, none⟩ (.int .i64 ub)).drew := ⟨_, rfl⟩
            have h10 := hw10 ▸ h5.drew
            rw [← hw10]
            have h11 := h10.take (L1.length + 1)
            rw [show ((L1 ++ ([rhA bo (rebK hmO N l k)] ++ [blkA bs #[.int .i64 1, .int .i64 idx, .int .i64 uk, .int .i64 ua, .int .i64 ub] 79])).set L1.length (rhA bo (rebK hmO N l (k + 1)))).take (L1.length + 1) = L1 ++ [rhA bo (rebK hmO N l (k + 1))] by
              rw [List.set_append_right _ _ (Nat.le_refl _), Nat.sub_self, List.take_append, List.take_of_length_le (by omega), show L1.length + 1 - L1.length = 1 by omega]
              rfl] at h11
            have H11 := Lib.hid h11
            clear h5 h10 h11 hw10 y0 y1 y2 y3 y4 z0 z1 z2 z3 z4 cp t0 t1 t2 t3 t4 hHeld H9 hbs
            go_wp2_with fail
            go_roundg (n - (k + 1))
            case measure => have := HK.out; omega
            case rel => exact ⟨k + 1, by omega, by go_num, H11.out⟩
          · have hkd : (kind == 1) = false := beq_eq_false_iff_ne.2 hk1
            have hsc2 : rebK hmO N l (k + 1) = rebK hmO N l k := by rw [hsc]; unfold addS; rw [if_neg hk1]
            have HSC := Lib.hid hsc2
            clear hsc hnx hR hsc2
            go_wp2_with fail
            go_roundg (n - (k + 1))
            case measure => have := HK.out; omega
            case rel => exact ⟨k + 1, by omega, by go_num, by rw [HSC.out]; exact H.out.alloc _⟩
        · obtain rfl : k = n := by omega
          have HTL := Lib.hid (show T.length = N by rw [HTE.out, rebK_len])
          rw [← HTE.out] at H
          obtain ⟨ao, co, cp, ⟨vo, cq⟩, fq, h7⟩ := rh_move H.out i L1.length (b := b) (bo := bo) (l := l) (T := T) (by rw [List.getElem?_append_left HIL1.out]; exact HI2.out) (by simp) (by have := HIL1.out; omega)
          rw [HTL.out] at cp h7
          go_upto_region 22 with (fail)
          have h8 := h7.take L1.length
          rw [List.set_append_right _ _ (Nat.le_refl _), List.set_append_left _ _ HIL1.out, List.take_left' (by simp), HL1.out, List.set_append_left _ _ HIL.out] at h8
          obtain ⟨w4, hw4⟩ : ∃ w4, w4 = wr.setCell ⟨b, 0, none⟩ (.slice ao N co) := ⟨_, rfl⟩
          rw [← hw4] at h8
          rw [← hw4]
          have H5 := Lib.hid h8
          clear h7 h8 hw4 cp cq fq H HI2 HIL1 HL1 HREB HNP HR4 HT HP
          obtain ⟨m, hm⟩ : ∃ m, T.length = m := ⟨_, rfl⟩
          have HM := Lib.hid hm
          have hS2 := rh_seek H5.out i (by rw [List.getElem?_append_left (by simpa using HIL.out), List.getElem?_set_self HIL.out]) HG1.out HPG.out x h0 h1
          rw [HQ.out.2.1] at hS2
          unfold seekV at hS2
          rw [if_neg (show ¬ (0 : Int) ≤ -1 by decide)] at hS2
          have HS2 := Lib.hid hS2
          have hqm : (q2 : Int) < m := by have := HQ.out.1; omega
          have hmb : m ≤ 1048576 := by have := HPG.out.pos; omega
          clear hS2 hm
          go_wp2_with fail
          refine (HS2.out).mono ?_
          rintro e w7 ⟨rfl, hk7⟩
          have H7 := Lib.hid (H5.out.keep hk7)
          clear hk7 H5 HS2
          go_upto_region 23 with (fail)
          obtain ⟨g3, c3, ho⟩ := rh_open H7.out i (by rw [List.getElem?_append_left (by simpa using HIL.out), List.getElem?_set_self HIL.out]) (by have := HPG.out.pos; omega)
          obtain ⟨y0, y1, y2, y3, y4⟩ := ho.cell q2 HQ.out.1
          have cp3 := ho.ptr
          have hcap3 := ho.cap
          rw [HM.out] at hcap3 cp3
          unfold maxLen at hcap3
          have z0 := ho.frz (q2 * 5)
          have z1 := ho.frz (q2 * 5 + 1)
          have z2 := ho.frz (q2 * 5 + 2)
          have z3 := ho.frz (q2 * 5 + 3)
          have z4 := ho.frz (q2 * 5 + 4)
          have h9 := ho.put q2 HQ.out.1 1 x vk va vb
          rw [List.set_append_left _ _ (by simpa using HIL.out), List.set_set, ← HQ.out.2.2] at h9
          clear ho
          have hbb := H7.out.blk (L.length + 0) (b := w.heap.size) (tail_get _ _ _ 0 (by simp))
          have t0 := hbb.cell 0
          have t1 := hbb.cell 1
          have t2 := hbb.cell 2
          simp at t0 t1 t2
          clear hbb
          refine wp_region_M (r := 8) (S := fun w' => w'.cell? ⟨b, 0, none⟩ = some (.slice (some ⟨g3, 0, none⟩) m c3) ∧ w'.cell? ⟨w.heap.size, 0, none⟩ = some (.int .i64 vk) ∧ w'.cell? ⟨w.heap.size, 1, none⟩ = some (.int .i64 va) ∧ w'.cell? ⟨w.heap.size, 2, none⟩ = some (.int .i64 vb)) (by kernel_rfl) ?_ (fun hHeld => ?_)
          · (try dsimp only); go_keep
          (refine wpAnyM_takeP (i := 0) (oi := ?_) (v := ?_) ?_ ?_ ?_ ?_ ?_ ?_ ?_ ?_ ?_; rotate_left 2; (· simp only [List.getElem?_toArray, List.getElem?_cons_succ, List.getElem?_cons_zero]; exact rfl); (· kernel_rfl); (· kernel_rfl); (· kernel_rfl); (· kernel_rfl); (· first | exact fun _ _ _ h => h | exact fun _ _ _ h => (HPan.out _ _ _ h).elim); (· (refine Or.inl ⟨by rfl, ?_⟩; (intro w hSw; (try dsimp only at hSw); go_simp) <;> with_reducible rfl)); (· exact fun _ => hHeld); simp only [Act.put, List.setIfInBounds_toArray, List.set_cons_zero, List.set_cons_succ])
          (refine wpAnyM_takeP (i := 1) (oi := ?_) (v := ?_) ?_ ?_ ?_ ?_ ?_ ?_ ?_ ?_ ?_; rotate_left 2; (· simp only [List.getElem?_toArray, List.getElem?_cons_succ, List.getElem?_cons_zero]; exact rfl); (· kernel_rfl); (· kernel_rfl); (· kernel_rfl); (· kernel_rfl); (· first | exact fun _ _ _ h => h | exact fun _ _ _ h => (HPan.out _ _ _ h).elim); (· (refine Or.inl ⟨by rfl, ?_⟩; (intro w hSw; (try dsimp only at hSw); go_simp) <;> with_reducible rfl)); (· exact fun _ => hHeld); simp only [Act.put, List.setIfInBounds_toArray, List.set_cons_zero, List.set_cons_succ])
          (refine wpAnyM_takeP (i := 2) (oi := ?_) (v := ?_) ?_ ?_ ?_ ?_ ?_ ?_ ?_ ?_ ?_; rotate_left 2; (· simp only [List.getElem?_toArray, List.getElem?_cons_succ, List.getElem?_cons_zero]; exact rfl); (· kernel_rfl); (· kernel_rfl); (· kernel_rfl); (· kernel_rfl); (· first | exact fun _ _ _ h => h | exact fun _ _ _ h => (HPan.out _ _ _ h).elim); (· (refine Or.inl ⟨by rfl, ?_⟩; (intro w hSw; (try dsimp only at hSw); go_simp) <;> with_reducible rfl)); (· exact fun _ => hHeld); simp only [Act.put, List.setIfInBounds_toArray, List.set_cons_zero, List.set_cons_succ])
          (refine wpAnyM_take (i := 3) (oi := ?_) (v := ?_) ?_ ?_ ?_ ?_ ?_ ?_ ?_ ?_ ?_ ?_; rotate_left 2; (· simp only [List.getElem?_toArray, List.getElem?_cons_succ, List.getElem?_cons_zero]; exact rfl); (· kernel_rfl); (· kernel_rfl); (· kernel_rfl); (· kernel_rfl); (· kernel_rfl); (· first | exact fun _ _ _ h => h | exact fun _ _ _ h => (HPan.out _ _ _ h).elim); (· (refine Or.inl ⟨by rfl, ?_⟩; (intro w hSw; (try dsimp only at hSw); go_simp) <;> with_reducible rfl)); (· assumption); simp only [Act.put, List.setIfInBounds_toArray, List.set_cons_zero, List.set_cons_succ])
          (refine wpAnyM_takeP (i := 4) (oi := ?_) (v := ?_) ?_ ?_ ?_ ?_ ?_ ?_ ?_ ?_ ?_; rotate_left 2; (· simp only [List.getElem?_toArray, List.getElem?_cons_succ, List.getElem?_cons_zero]; exact rfl); (· kernel_rfl); (· kernel_rfl); (· kernel_rfl); (· kernel_rfl); (· first | exact fun _ _ _ h => h | exact fun _ _ _ h => (HPan.out _ _ _ h).elim); (· (refine Or.inl ⟨by rfl, ?_⟩; (intro w hSw; (try dsimp only at hSw); go_simp) <;> with_reducible rfl)); (· exact fun _ => hHeld); simp only [Act.put, List.setIfInBounds_toArray, List.set_cons_zero, List.set_cons_succ])
          (refine wpAnyM_takeP (i := 5) (oi := ?_) (v := ?_) ?_ ?_ ?_ ?_ ?_ ?_ ?_ ?_ ?_; rotate_left 2; (· simp only [List.getElem?_toArray, List.getElem?_cons_succ, List.getElem?_cons_zero]; exact rfl); (· kernel_rfl); (· kernel_rfl); (· kernel_rfl); (· kernel_rfl); (· first | exact fun _ _ _ h => h | exact fun _ _ _ h => (HPan.out _ _ _ h).elim); (· (refine Or.inl ⟨by rfl, ?_⟩; (intro w hSw; (try dsimp only at hSw); go_simp) <;> with_reducible rfl)); (· exact fun _ => hHeld); simp only [Act.put, List.setIfInBounds_toArray, List.set_cons_zero, List.set_cons_succ])
          (refine wpAnyM_take (i := 6) (oi := ?_) (v := ?_) ?_ ?_ ?_ ?_ ?_ ?_ ?_ ?_ ?_ ?_; rotate_left 2; (· simp only [List.getElem?_toArray, List.getElem?_cons_succ, List.getElem?_cons_zero]; exact rfl); (· kernel_rfl); (· kernel_rfl); (· kernel_rfl); (· kernel_rfl); (· kernel_rfl); (· first | exact fun _ _ _ h => h | exact fun _ _ _ h => (HPan.out _ _ _ h).elim); (· (refine Or.inl ⟨by rfl, ?_⟩; (intro w hSw; (try dsimp only at hSw); go_simp) <;> with_reducible rfl)); (· assumption); simp only [Act.put, List.setIfInBounds_toArray, List.set_cons_zero, List.set_cons_succ])
          (refine wpAnyM_takeP (i := 7) (oi := ?_) (v := ?_) ?_ ?_ ?_ ?_ ?_ ?_ ?_ ?_ ?_; rotate_left 2; (· simp only [List.getElem?_toArray, List.getElem?_cons_succ, List.getElem?_cons_zero]; exact rfl); (· kernel_rfl); (· kernel_rfl); (· kernel_rfl); (· kernel_rfl); (· first | exact fun _ _ _ h => h | exact fun _ _ _ h => (HPan.out _ _ _ h).elim); (· (refine Or.inl ⟨by rfl, ?_⟩; (intro w hSw; (try dsimp only at hSw); go_simp) <;> with_reducible rfl)); (· exact fun _ => hHeld); simp only [Act.put, List.setIfInBounds_toArray, List.set_cons_zero, List.set_cons_succ])
          refine wpAnyM_ready (rs := [8]) (by kernel_rfl) (by simp) ?_
          refine AllReadyM.free (o := ?_) ?_ (by kernel_rfl) ?_ ?_
          rotate_left 1
          · simp only [List.getElem?_toArray, List.getElem?_cons_succ, List.getElem?_cons_zero]; exact rfl
          rotate_left 1
          · exact AllReadyM.nil
          intro K hK
          go_simp
          refine hK.out _ _ ?_
          clear hK K
          refine wpAnyM_ready (rs := [9]) (by kernel_rfl) (by simp) ?_
          refine AllReadyM.free (o := ?_) ?_ (by kernel_rfl) ?_ ?_
          rotate_left 1
          · simp only [List.getElem?_toArray, List.getElem?_cons_succ, List.getElem?_cons_zero]; exact rfl
          rotate_left 1
          · exact AllReadyM.nil
          intro K hK
          go_simp
          refine hK.out _ _ ?_
          clear hK K
          refine wpAnyM_done (by kernel_rfl) ?_ _
          obtain ⟨w8, hw8⟩ : ∃ w8, w8 = (((((w7.setCell ⟨g3, q2 * 5, none⟩ (.int .i64 1)).setCell ⟨g3, q2 * 5 + 1, none⟩ (.int .i64 x)).setCell ⟨g3, q2 * 5 + 2, none⟩ (.int .i64 vk)).setCell ⟨g3, q2 * 5 + 3, none⟩ (.int .i64 va)).setCell ⟨g3, q2 * 5 + 4, none⟩ (.int .i64 vb)).drew := ⟨_, rfl⟩
          have H9 := Lib.hid (hw8 ▸ h9.drew)
          rw [← hw8]
          clear h9 hw8 y0 y1 y2 y3 y4 z0 z1 z2 z3 z4 cp3 t0 t1 t2 hHeld H7
          have hb := H9.out.blk (L.length + 1) (b := w.heap.size + 1) (tail_get _ _ _ 1 (by simp))
          have e0 := hb.cell 0
          have e1 := hb.cell 1
          have e2 := hb.cell 2
          have f0 := hb.frozen 0
          have f1 := hb.frozen 1
          have f2 := hb.frozen 2
          simp at e0 e1 e2
          have HB := Lib.hid hb
          clear hb
          go_wp2_with fail
          have hb5 := ((HB.out.setCell 0 (.int .i64 0)).setCell 1 (.int .i64 0)).setCell 2 (.int .i64 0)
          have e0 := hb5.cell 0
          have e1 := hb5.cell 1
          have e2 := hb5.cell 2
          simp at e0 e1 e2
          have HE := Lib.hid (H9.out.res3 (k := 1) (b := w.heap.size + 1) rfl (.int .i64 0) (.int .i64 0) (.int .i64 0))
          refine bodyPost_ret (v := .tuple #[.agg #[.int .i64 0, .int .i64 0, .int .i64 0], .bool false]) (by simp [results, Try.results29, go_sem, e0, e1, e2]) rfl ⟨⟨_, rfl⟩, HE.out⟩
end Go.Proofs.Ytcmbbkaioopkhaa
