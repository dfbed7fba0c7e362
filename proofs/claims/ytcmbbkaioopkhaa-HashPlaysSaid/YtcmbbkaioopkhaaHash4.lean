/-
  The package hash: a value is got.
-/
import Derived.Test.YtcmbbkaioopkhaaHash3
namespace Go.Proofs.Ytcmbbkaioopkhaa
open Go Go.RowKit
set_option linter.unusedVariables false
set_option linter.unusedSimpArgs false

def zV : Value := .agg #[.int .i64 0, .int .i64 0, .int .i64 0]
def SlotV.val (s : SlotV) : Value := .agg #[.int .i64 s.vk, .int .i64 s.va, .int .i64 s.vb]

set_option maxHeartbeats 1000000 in
theorem hash_get_yes {w0 w : World} {L : List Asr} {b : Nat} {l : List SlotV} (H : St w0 w L) (i : Nat) (hi : L[i]? = some (hashA b l)) (hT : Tab hmO l) (hP : Pow l.length) (x : Int) (h0 : 0 ≤ x) (h1 : x < 65536) (p : Nat) (hp : p < l.length) (hf : findS hmO l x = ((p : Int), -1)) :
    Calls Try.prog 36 #[.pointer (some ⟨b, 0, none⟩), .int .i64 x] w (Ret w (.tuple #[(sl l p).val, .bool true])) := by
  have HA := H.alloc (.cells #[.int .i64 0, .int .i64 0, .int .i64 0] 67)
  have hC := hash_find HA i hi hT hP x h0 h1
  rw [hf] at hC
  have HC := Lib.hid hC; clear hC hf
  have HA' := Lib.hid HA
  have HI := Lib.hid hi
  have HB := Lib.hid (Blk.new w #[.int .i64 0, .int .i64 0, .int .i64 0] 67)
  clear H HA hi hT hP
  go_enter Try.func36, Try.ntmps36
  go_wp2_with fail
  refine (HC.out).mono ?_
  rintro e w1 ⟨rfl, hk1⟩
  have HK1 := Lib.hid hk1; clear hk1
  have hb := HB.out.keep HK1.out (fun f => f)
  have z0 := hb.cell 0
  have z1 := hb.cell 1
  have z2 := hb.cell 2
  have y0 := hb.frozen 0
  have y1 := hb.frozen 1
  have y2 := hb.frozen 2
  simp at z0 z1 z2
  obtain ⟨⟨a, c⟩, h⟩ := (HA'.out.keep HK1.out).exSplit i HI.out
  obtain ⟨n, hn⟩ : ∃ n, l.length = n := ⟨_, rfl⟩
  unfold hashPs at h
  rw [hn] at h hp
  have c2 := (h.blk 0 rfl).cell 2
  simp at c2
  obtain ⟨S, _, hrd, hS⟩ := h.rd 1 rfl
  obtain ⟨bs, os, rfl, hbs, hco⟩ := (show Rd S w1 (.slice a n c) n (flatSl l) from hrd).elem (cells := SlotV.cells) (size := 5) (fun _ => rfl) (by decide) (sl_get (l := l) (p := p) (by omega))
  obtain ⟨s, hs⟩ : ∃ s, sl l p = s := ⟨_, rfl⟩
  rw [hs] at hco
  have HS := Lib.hid hs
  obtain ⟨kind, idx, vk, va, vb⟩ := s
  have d5 := hco 2 (by decide)
  have d6 := hco 3 (by decide)
  have d7 := hco 4 (by decide)
  simp [SlotV.cells] at d5 d6 d7
  have hpi : (p : Int) < n := by omega
  have hcap : n ≤ c ∧ c ≤ maxLen := by obtain ⟨_, ho, _⟩ := h.rd 1 rfl; exact ho.cap
  unfold maxLen at hcap
  have HKK := Lib.hid (show Keep w w1 Nope from ((Keep.refl w Nope).alloc _).trans HK1.out (fun _ f => f.elim))
  have HBB := Lib.hid hb
  clear hco hs hrd h hb hS hn
  go_wp2_with fail
  rw [HS.out]
  have hb5 := ((HBB.out.setCell 0 (.int .i64 vk)).setCell 1 (.int .i64 va)).setCell 2 (.int .i64 vb)
  have e0 := hb5.cell 0
  have e1 := hb5.cell 1
  have e2 := hb5.cell 2
  simp at e0 e1 e2
  have HE := Lib.hid (((HKK.out.setCell (p := ⟨w.heap.size, 0, none⟩) (.inr (Nat.le_refl _)) (.int .i64 vk)).setCell (p := ⟨w.heap.size, 1, none⟩) (.inr (Nat.le_refl _)) (.int .i64 va)).setCell (p := ⟨w.heap.size, 2, none⟩) (.inr (Nat.le_refl _)) (.int .i64 vb))
  clear hb5 z0 z1 z2 y0 y1 y2 c2 d5 d6 d7
  refine bodyPost_ret (v := .tuple #[.agg #[.int .i64 vk, .int .i64 va, .int .i64 vb], .bool true]) (by simp [results, Try.results36, go_sem, e0, e1, e2]) rfl ⟨rfl, HE.out⟩

/-- The zero value stands in the cell of the result. -/
theorem zero_res {w w1 : World} (hk : Keep (w.alloc (.cells #[.int .i64 0, .int .i64 0, .int .i64 0] 67)) w1 Nope) :
    Blk w1 w.heap.size #[.int .i64 0, .int .i64 0, .int .i64 0] 67 := (Blk.new w _ _).keep hk (fun f => f)
theorem keep3 {w w1 : World} (hk : Keep w w1 Nope) (u0 u1 u2 : Value) : Keep w (((w1.setCell ⟨w.heap.size, 0, none⟩ u0).setCell ⟨w.heap.size, 1, none⟩ u1).setCell ⟨w.heap.size, 2, none⟩ u2) Nope :=
  ((hk.setCell (p := ⟨w.heap.size, 0, none⟩) (.inr (Nat.le_refl _)) u0).setCell (p := ⟨w.heap.size, 1, none⟩) (.inr (Nat.le_refl _)) u1).setCell (p := ⟨w.heap.size, 2, none⟩) (.inr (Nat.le_refl _)) u2

set_option maxHeartbeats 1000000 in
theorem hash_get_none {w0 w : World} {L : List Asr} {b : Nat} {l : List SlotV} (H : St w0 w L) (i : Nat) (hi : L[i]? = some (hashA b l)) (hT : Tab hmO l) (hP : Pow l.length) (x : Int) (h0 : 0 ≤ x) (h1 : x < 65536) (q : Int) (hf : findS hmO l x = (-1, q)) :
    Calls Try.prog 36 #[.pointer (some ⟨b, 0, none⟩), .int .i64 x] w (Ret w (.tuple #[zV, .bool false])) := by
  have HA := H.alloc (.cells #[.int .i64 0, .int .i64 0, .int .i64 0] 67)
  have hC := hash_find HA i hi hT hP x h0 h1
  rw [hf] at hC
  have HC := Lib.hid hC; clear hC hf H HA hi hT hP
  go_enter Try.func36, Try.ntmps36
  go_wp2_with fail
  refine (HC.out).mono ?_
  rintro e w1 ⟨rfl, hk1⟩
  have hb := zero_res hk1
  have HKK := Lib.hid (show Keep w w1 Nope from ((Keep.refl w Nope).alloc _).trans hk1 (fun _ f => f.elim))
  have z0 := hb.cell 0
  have z1 := hb.cell 1
  have z2 := hb.cell 2
  have y0 := hb.frozen 0
  have y1 := hb.frozen 1
  have y2 := hb.frozen 2
  simp at z0 z1 z2
  have HBB := Lib.hid hb
  clear hk1 hb
  go_wp2_with fail
  have hb5 := ((HBB.out.setCell 0 (.int .i64 0)).setCell 1 (.int .i64 0)).setCell 2 (.int .i64 0)
  have e0 := hb5.cell 0
  have e1 := hb5.cell 1
  have e2 := hb5.cell 2
  simp at e0 e1 e2
  have HE := Lib.hid (keep3 HKK.out (.int .i64 0) (.int .i64 0) (.int .i64 0))
  clear hb5 z0 z1 z2 y0 y1 y2
  refine bodyPost_ret (v := .tuple #[.agg #[.int .i64 0, .int .i64 0, .int .i64 0], .bool false]) (by simp [results, Try.results36, go_sem, e0, e1, e2]) rfl ⟨rfl, HE.out⟩

set_option maxHeartbeats 1000000 in
theorem hash_get_no (b : Nat) (x : Int) (hx : x < 0 ∨ 65536 ≤ x) (w : World) :
    Calls Try.prog 36 #[.pointer (some ⟨b, 0, none⟩), .int .i64 x] w (Ret w (.tuple #[zV, .bool false])) := by
  have hb := zero_res (Keep.refl (w.alloc (.cells #[.int .i64 0, .int .i64 0, .int .i64 0] 67)) Nope)
  have HKK := Lib.hid (show Keep w (w.alloc (.cells #[.int .i64 0, .int .i64 0, .int .i64 0] 67)) Nope from (Keep.refl w Nope).alloc _)
  have e0 := hb.cell 0
  have e1 := hb.cell 1
  have e2 := hb.cell 2
  simp at e0 e1 e2
  have HE0 := Lib.hid e0
  have HE1 := Lib.hid e1
  have HE2 := Lib.hid e2
  clear hb e0 e1 e2
  by_cases h0 : x < 0
  · clear hx
    go_enter Try.func36, Try.ntmps36
    go_wp2_with fail
    have e0 := HE0.out
    have e1 := HE1.out
    have e2 := HE2.out
    refine bodyPost_ret (v := .tuple #[.agg #[.int .i64 0, .int .i64 0, .int .i64 0], .bool false]) (by simp [results, Try.results36, go_sem, e0, e1, e2]) rfl ⟨rfl, HKK.out⟩
  · have h1 : 65536 ≤ x := hx.resolve_left h0
    have hd : decide (x < 0) = false := decide_eq_false h0
    clear hx h0
    go_enter Try.func36, Try.ntmps36
    go_wp2_with fail
    have e0 := HE0.out
    have e1 := HE1.out
    have e2 := HE2.out
    refine bodyPost_ret (v := .tuple #[.agg #[.int .i64 0, .int .i64 0, .int .i64 0], .bool false]) (by simp [results, Try.results36, go_sem, e0, e1, e2]) rfl ⟨rfl, HKK.out⟩

set_option maxHeartbeats 400000 in
theorem hash_len {w0 w : World} {L : List Asr} {b : Nat} {l : List SlotV} (H : St w0 w L) (i : Nat) (hi : L[i]? = some (hashA b l)) :
    Calls Try.prog 35 #[.pointer (some ⟨b, 0, none⟩)] w (fun e w' => e = .returned (.int .i64 (cntK 1 l)) ∧ w = w') := by
  obtain ⟨⟨a, c⟩, h⟩ := H.exSplit i hi
  unfold hashPs at h
  obtain ⟨k, hk⟩ : ∃ k, cntK 1 l = k := ⟨_, rfl⟩
  rw [hk] at h ⊢
  have c0 := (h.blk 0 rfl).cell 0
  simp at c0
  clear h H hi hk
  go_enter Try.func35, Try.ntmps35
  go_wp2_with fail
  go_ret
  exact ⟨rfl, rfl⟩

theorem flatSl_one (l : List SlotV) : ∀ u ∈ flatSl l, u.oneCell' = true := by
  intro u hu
  obtain ⟨o, _, ho⟩ := List.mem_flatMap.1 hu
  simp [SlotV.cells] at ho
  rcases ho with rfl | rfl | rfl | rfl | rfl <;> rfl

theorem run_make_slots (w : World) (n : Nat) (hn : n ≤ 2000000) :
    ∃ w', (Instr.makeSlice 76 (.int .i64 (n : Int)) (.int .i64 (n : Int))).run Try.prog w = .ok (.slice (some ⟨w.heap.size, 0, none⟩) n n) w' ∧
      Own (New w w') w' 79 5 (.slice (some ⟨w.heap.size, 0, none⟩) n n) n (flatSl (List.replicate n emptyS)) ∧ Keep w w' Nope := by
  obtain ⟨w', h1, h2, h3⟩ := run_make (P := Try.prog) (t := 76) (e := 79) (size := 5) (bytes := 40) (.agg #[.int .i64 0, .int .i64 0, .int .i64 0, .int .i64 0, .int .i64 0])
    Try.underlying76 (by kernel_rfl) rfl (by decide) .i64 .i64 n (by omega) (by unfold maxLen; omega) w
  rw [show (Value.agg #[.int .i64 0, .int .i64 0, .int .i64 0, .int .i64 0, .int .i64 0]).cells.toList = [Value.int .i64 0, .int .i64 0, .int .i64 0, .int .i64 0, .int .i64 0] from rfl, hash_flat_new] at h2
  exact ⟨w', h1, h2, h3⟩
set_option maxHeartbeats 1000000 in
theorem hash_new {w0 w : World} {L : List Asr} (H : St w0 w L) : Calls Try.prog 26 #[] w (fun e w' => ∃ b, e = .returned (.pointer (some ⟨b, 0, none⟩)) ∧ St w0 w' (L ++ [hashA b (List.replicate 8 emptyS)])) := by
  obtain ⟨w1, hmk, ho, hk⟩ := run_make_slots w 8 (by decide)
  have hmk' : (Instr.makeSlice 76 (.int .i64 8) (.int .i64 8)).run Try.prog w = .ok (.slice (some ⟨w.heap.size, 0, none⟩) 8 8) w1 := hmk
  have HO := Lib.hid ho
  have HK := Lib.hid hk
  have HH := Lib.hid H
  clear hmk ho hk H
  go_enter Try.func26, Try.ntmps26
  go_wp2_with fail
  go_ret
  refine ⟨_, rfl, ?_⟩
  refine HH.out.add (w' := w1.alloc _) (HK.out.alloc _) (A := hashA w1.heap.size (List.replicate 8 emptyS)) ⟨(some ⟨w.heap.size, 0, none⟩, 8), ?_⟩
  have hs := HK.out.size
  refine ⟨fun j x => (j = 0 ∧ x = w1.heap.size) ∨ (j = 1 ∧ New w w1 x), fun j A hj => ?_, fun j x hx => ?_, fun j k x hj hk => ?_⟩
  · rcases j with _ | _ | j
    · cases hj
      exact ⟨Blk.new w1 _ _, .inl ⟨rfl, rfl⟩⟩
    · cases hj
      exact (HO.out.alloc _).mono (fun x hx => .inr ⟨rfl, hx⟩)
    · cases hj
  · rcases hx with ⟨_, rfl⟩ | ⟨_, hx⟩
    · exact ⟨hs, by simp⟩
    · exact ⟨hx.1, by have := hx.2; simp; omega⟩
  · rcases hj with ⟨rfl, rfl⟩ | ⟨rfl, hj⟩ <;> rcases hk with ⟨rfl, hk⟩ | ⟨rfl, hk⟩
    · rfl
    · have := hk.2; omega
    · subst hk; have := hj.2; omega
    · rfl

set_option maxHeartbeats 400000 in
theorem clone_sl (v : Value) (n : Nat) (xs : List Value) (w : World) (S : Nat → Prop) (h : Rd S w v n xs) (hl : xs.length = n * 5) (hone : ∀ u ∈ xs, u.oneCell' = true) (hb : n * 40 ≤ 140737488355328) :
    Calls Try.prog 50 #[v] w (fun e w' => ∃ a n' c, e = .returned (.slice a n' c) ∧ Own (New w w') w' 79 5 (.slice a n' c) n' xs ∧ Keep w w' Nope) := by
  have hmx : 0 + n ≤ maxLen := by unfold maxLen; omega
  have hbb : (0 + n) * 40 ≤ 140737488355328 := by omega
  obtain ⟨a, c, rfl, h1, h2, h3, h4⟩ := id h
  have hnil := fun w' => Lib.run_eql_slice_nil (P := Try.prog) w' 76 79 a n c 0 0 Try.underlying76
  clear h1 h2 h4
  cases a with
  | none =>
    obtain ⟨hn, hc⟩ := h3 rfl
    clear h3
    subst hn
    subst hc
    have hx : xs = [] := List.eq_nil_of_length_eq_zero (by simpa using hl)
    subst hx
    clear hl hone hb hmx hbb
    simp only [Option.isNone_none] at hnil
    go_enter Try.func50, Try.ntmps50
    go_wp2_with fail
    go_ret
    exact ⟨_, _, _, rfl, Own.nil _ _ _ _, Keep.refl _ _⟩
  | some ad =>
    clear h3
    simp only [Option.isNone_some] at hnil
    have HL := Lib.hid hl; clear hl
    have HO := Lib.hid hone; clear hone
    go_enter Try.func50, Try.ntmps50
    go_wp2_with (at_builtin; refine wpList_app (P := Try.prog) slSl rfl _ _ rfl (S := fun i => w.heap.size ≤ i) (S2 := S) (n := 0) (xs := []) (m := n) (news := xs) rfl rfl ?hown ?hx ?hl ?h1 hbb hmx ?_)
    case hown => exact Own.lit w _ 5 0 #[] (Nat.zero_le _) rfl (Nat.le_refl _)
    case hx => exact h.alloc _
    case hl => exact HL.out
    case h1 => exact HO.out
    rintro a' k c' w1 ⟨ho, _, hk1, _⟩
    clear hnil h hbb hmx hb
    have HO1 := Lib.hid ho; clear ho
    have HK := Lib.hid hk1; clear hk1
    go_wp2_with fail
    go_ret
    exact ⟨_, _, _, rfl, (HO1.out.mono (fun i h => h.elim id (fun h => by have := h.1; simp at this; omega))).new, (Keep.alloc (Keep.refl w Nope) _).trans HK.out (fun i h => .inr h)⟩

set_option maxHeartbeats 400000 in
theorem hash_slots {w0 w : World} {L : List Asr} {b : Nat} {l : List SlotV} (H : St w0 w L) (i : Nat) (hi : L[i]? = some (hashA b l)) (hl : l.length ≤ 1048576) :
    Calls Try.prog 34 #[.pointer (some ⟨b, 0, none⟩)] w (fun e w' => ∃ a c, e = .returned (.slice a l.length c) ∧ St w0 w' (L ++ [slA 79 5 (.slice a l.length c) l.length (flatSl l)])) := by
  obtain ⟨⟨a, c⟩, h⟩ := H.exSplit i hi
  unfold hashPs at h
  have c2 := (h.blk 0 rfl).cell 2
  simp at c2
  obtain ⟨S, _, hrd, _⟩ := h.rd 1 rfl
  have HC := Lib.hid (clone_sl _ _ _ _ S hrd (flatSl_len l) (flatSl_one l) (by omega))
  obtain ⟨n, hn⟩ : ∃ n, l.length = n := ⟨_, rfl⟩
  rw [hn] at c2 HC hl ⊢
  have HN := Lib.hid hn
  have HH := Lib.hid H
  clear h H hi hrd hn
  go_enter Try.func34, Try.ntmps34
  go_wp2_with fail
  refine (HC.out).mono ?_
  rintro e w1 ⟨a1, n1, c1, rfl, ho, hk⟩
  have hlen := ho.len
  rw [flatSl_len, HN.out] at hlen
  have e1 : n1 = n := by omega
  subst e1
  have H1 := Lib.hid (HH.out.add hk (A := slA 79 5 (.slice a1 n1 c1) n1 (flatSl l)) ho)
  clear ho hk hlen HC HH
  go_wp2_with fail
  go_ret
  exact ⟨_, _, rfl, H1.out⟩
end Go.Proofs.Ytcmbbkaioopkhaa