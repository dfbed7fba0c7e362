/-
  The package world: New; What becomes of handles that are made and deleted one by one: plainly. No program in sight; The world of TopSpent, behind n rounds: what each act does to it; The package expr: join; what an arena of five nodes looks like.
-/
import Derived.Test.YtkiikblpgppmkaaGreatDoorSpM18
import Derived.Test.YtkiikblpgppmkaaGreatDoorSpM08
namespace Go.Proofs.YtkiikblpgppmkaaGreatDoor
open Go Go.RowKit
set_option linter.unusedVariables false
set_option linter.unusedSimpArgs false

theorem ReadIn.cons {w0 : World} {L : List Asr} {A : Asr} {v : Value} {n : Nat} {xs : List Value} (h : ReadIn w0 L v n xs) : ReadIn w0 (A :: L) v n xs :=
  fun w' M H => h w' (M ++ [A]) (by rw [List.append_assoc]; exact H)
theorem ReadIn.none {w0 : World} {L : List Asr} : ReadIn w0 L (.slice none 0 0) 0 [] := fun w' M H => ⟨fun _ => False, Own.rd (Own.nil (fun _ => False) w' 2 1)⟩
def newWo (n top : Nat) (ds : List DescV) (f : Nat → VV) (rs : List Int) : WoS := ⟨⟨newAl n top, ds.map (DescV.new f)⟩, rs.take 32, [], n, top⟩
/-- A claim that hangs on addresses, opened at the head. -/
theorem St.exTop {α : Type} {f : α → List Asr} {w0 w : World} {L : List Asr} (h : St w0 w ((exA fun p => starA (f p)) :: L)) : ∃ p, St w0 w (f p ++ L) := by
  obtain ⟨p, h⟩ := h.exSplit 0 rfl
  refine ⟨p, h.pick (fun i => if i < (f p).length then i else i + 1) (fun i j hi hj e => ?_) (fun i A hi => ?_)⟩
  · by_cases a1 : i < (f p).length <;> by_cases a2 : j < (f p).length <;> simp [a1, a2] at e <;> omega
  · by_cases a1 : i < (f p).length
    · simp only [a1, if_true]
      rw [List.getElem?_append_left a1] at hi ⊢
      exact hi
    · simp only [a1, if_false]
      rw [List.getElem?_append_right (by omega)] at hi
      rw [List.getElem?_append_right (by omega), show i + 1 - (f p).length = (i - (f p).length) + 1 by omega]
      exact hi
set_option maxRecDepth 100000 in
set_option maxHeartbeats 2000000 in
theorem wo_new {w0 w : World} {L : List Asr} (H : St w0 w L) (n top : Nat) (h1 : 1 ≤ n) (h2 : n ≤ 64) (h3 : 1 ≤ top) (h4 : top < 4294967296) (ds : List DescV) (hds : ∀ d, d ∈ ds → d.Ok) (hdl : ds.length ≤ 64) (v : Value) (hv : ReadIn w0 L v ds.length (flatDesc ds)) (f : Nat → VV) (rs : List Int) (vr : Value) (hr : ReadIn w0 L vr rs.length (i64s rs)) :
    Calls Tryz.prog 32 #[.agg #[.int .i64 (n : Nat), .int .i64 (top : Nat), v, vr]] w (fun e w' => ∃ b, e = .returned (.tuple #[ptr b, .int .i64 0]) ∧ St w0 w' (L ++ [woA b (newWo n top ds f rs)])) := by
  obtain ⟨S0, hr0⟩ := hv w [] H
  obtain ⟨va, vc, rfl, _, _, _, _⟩ := id hr0
  obtain ⟨S1, hr1⟩ := hr w [] H
  obtain ⟨ra, rc, rfl, _, _, _, _⟩ := id hr1
  have HB := Lib.hid (show St w0 (w.alloc (.cells #[.int .i64 (n : Nat), .int .i64 (top : Nat), .slice va ds.length vc, .slice ra rs.length rc] 27)) (blkA w.heap.size #[.int .i64 (n : Nat), .int .i64 (top : Nat), .slice va ds.length vc, .slice ra rs.length rc] 27 :: L) from H.box0 _ _)
  have HE := Lib.hid (ent_new HB.out n top h1 h2 h3 h4 ds hds hdl _ hv.cons f)
  have HR := Lib.hid hr
  obtain ⟨E, hE⟩ : ∃ E, E = (⟨newAl n top, ds.map (DescV.new f)⟩ : EnS) := ⟨_, rfl⟩
  rw [← hE] at HE
  have HEE := Lib.hid hE
  obtain ⟨dl, hdl'⟩ : ∃ dl, ds.length = dl := ⟨_, rfl⟩
  obtain ⟨rl, hrl⟩ : ∃ rl, rs.length = rl := ⟨_, rfl⟩
  rw [hdl'] at HB HE ⊢
  rw [hrl] at HB HE HR ⊢
  have HRL := Lib.hid hrl
  clear H hv hr hr0 hr1 hds hdl hE hdl' hrl h1 h2 h3 h4
  unfold ptr at *
  go_enter Tryz.func32, Tryz.ntmps32
  go_wp2_with (go_at_call 72; refine HE.out.mono ?_; rintro e w1 ⟨eb, rfl, h1⟩; have H1 := Lib.hid h1.first; clear h1 HE HB)
  have HCUR := Lib.hid H1.out.drew
  obtain ⟨cb, hcb⟩ : ∃ cb, w.heap.size = cb := ⟨_, rfl⟩
  rw [hcb] at HCUR ⊢
  clear H1 hcb
  have hb1 := HCUR.out.blk 1 rfl
  have c0 : w1.drew.cell? ⟨cb, 0, none⟩ = some (.int .i64 (n : Nat)) := by rw [hb1.cell]; rfl
  have c1 : w1.drew.cell? ⟨cb, 1, none⟩ = some (.int .i64 (top : Nat)) := by rw [hb1.cell]; rfl
  have c3 : w1.drew.cell? ⟨cb, 3, none⟩ = some (.slice ra rl rc) := by rw [hb1.cell]; rfl
  clear hb1
  refine wp_region_M (r := 14) (S := fun w' => w'.cell? ⟨cb, 0, none⟩ = some (.int .i64 (n : Nat)) ∧ w'.cell? ⟨cb, 1, none⟩ = some (.int .i64 (top : Nat)) ∧ w'.cell? ⟨cb, 3, none⟩ = some (.slice ra rl rc)) (by kernel_rfl) ?_ (fun hHeld => ?_)
  · (try dsimp only); (first | exact ⟨c0, c1, c3⟩ | (have hb2 := HCUR.out.blk 2 rfl; exact ⟨by rw [hb2.cell]; rfl, by rw [hb2.cell]; rfl, by rw [hb2.cell]; rfl⟩) | (have hb2 := HCUR.out.blk 3 rfl; exact ⟨by rw [hb2.cell]; rfl, by rw [hb2.cell]; rfl, by rw [hb2.cell]; rfl⟩) | (have hb2 := HCUR.out.blk 3 rfl; refine ⟨?_, ?_, ?_⟩ <;> exact ((Keep.refl _ Nope).alloc _).cell (by rw [hb2.cell]; rfl) (fun f => f)))
  (refine wpAnyM_takeP (i := 0) (oi := ?_) (v := ?_) ?_ ?_ ?_ ?_ ?_ ?_ ?_ ?_ ?_; rotate_left 2; (· simp only [List.getElem?_toArray, List.getElem?_cons_succ, List.getElem?_cons_zero]; exact rfl); (· kernel_rfl); (· kernel_rfl); (· kernel_rfl); (· kernel_rfl); (· first | exact fun _ _ _ h => h | exact fun _ _ _ h => (HPan.out _ _ _ h).elim); (· (refine Or.inl ⟨by rfl, ?_⟩; (intro w hSw; (try dsimp only at hSw); go_simp) <;> with_reducible rfl)); (· exact fun _ => hHeld); simp only [Act.put, List.setIfInBounds_toArray, List.set_cons_zero, List.set_cons_succ])
  (refine wpAnyM_takeP (i := 1) (oi := ?_) (v := ?_) ?_ ?_ ?_ ?_ ?_ ?_ ?_ ?_ ?_; rotate_left 2; (· simp only [List.getElem?_toArray, List.getElem?_cons_succ, List.getElem?_cons_zero]; exact rfl); (· kernel_rfl); (· kernel_rfl); (· kernel_rfl); (· kernel_rfl); (· first | exact fun _ _ _ h => h | exact fun _ _ _ h => (HPan.out _ _ _ h).elim); (· (refine Or.inl ⟨by rfl, ?_⟩; (intro w hSw; (try dsimp only at hSw); go_simp) <;> with_reducible rfl)); (· exact fun _ => hHeld); simp only [Act.put, List.setIfInBounds_toArray, List.set_cons_zero, List.set_cons_succ])
  (refine wpAnyM_takeP (i := 2) (oi := ?_) (v := ?_) ?_ ?_ ?_ ?_ ?_ ?_ ?_ ?_ ?_; rotate_left 2; (· simp only [List.getElem?_toArray, List.getElem?_cons_succ, List.getElem?_cons_zero]; exact rfl); (· kernel_rfl); (· kernel_rfl); (· kernel_rfl); (· kernel_rfl); (· first | exact fun _ _ _ h => h | exact fun _ _ _ h => (HPan.out _ _ _ h).elim); (· (refine Or.inl ⟨by rfl, ?_⟩; (intro w hSw; (try dsimp only at hSw); go_simp) <;> with_reducible rfl)); (· exact fun _ => hHeld); simp only [Act.put, List.setIfInBounds_toArray, List.set_cons_zero, List.set_cons_succ])
  (refine wpAnyM_take (i := 3) (oi := ?_) (v := ?_) ?_ ?_ ?_ ?_ ?_ ?_ ?_ ?_ ?_ ?_; rotate_left 2; (· simp only [List.getElem?_toArray, List.getElem?_cons_succ, List.getElem?_cons_zero]; exact rfl); (· kernel_rfl); (· kernel_rfl); (· kernel_rfl); (· kernel_rfl); (· kernel_rfl); (· first | exact fun _ _ _ h => h | exact fun _ _ _ h => (HPan.out _ _ _ h).elim); (· (refine Or.inl ⟨by rfl, ?_⟩; (intro w hSw; (try dsimp only at hSw); go_simp) <;> with_reducible rfl)); (· assumption); simp only [Act.put, List.setIfInBounds_toArray, List.set_cons_zero, List.set_cons_succ])
  (refine wpAnyM_takeP (i := 8) (oi := ?_) (v := ?_) ?_ ?_ ?_ ?_ ?_ ?_ ?_ ?_ ?_; rotate_left 2; (· simp only [List.getElem?_toArray, List.getElem?_cons_succ, List.getElem?_cons_zero]; exact rfl); (· kernel_rfl); (· kernel_rfl); (· kernel_rfl); (· kernel_rfl); (· first | exact fun _ _ _ h => h | exact fun _ _ _ h => (HPan.out _ _ _ h).elim); (· (refine Or.inl ⟨by rfl, ?_⟩; (intro w hSw; (try dsimp only at hSw); go_simp) <;> with_reducible rfl)); (· exact fun _ => hHeld); simp only [Act.put, List.setIfInBounds_toArray, List.set_cons_zero, List.set_cons_succ])
  (refine wpAnyM_take (i := 9) (oi := ?_) (v := ?_) ?_ ?_ ?_ ?_ ?_ ?_ ?_ ?_ ?_ ?_; rotate_left 2; (· simp only [List.getElem?_toArray, List.getElem?_cons_succ, List.getElem?_cons_zero]; exact rfl); (· kernel_rfl); (· kernel_rfl); (· kernel_rfl); (· kernel_rfl); (· kernel_rfl); (· first | exact fun _ _ _ h => h | exact fun _ _ _ h => (HPan.out _ _ _ h).elim); (· (refine Or.inl ⟨by rfl, ?_⟩; (intro w hSw; (try dsimp only at hSw); go_simp) <;> with_reducible rfl)); (· assumption); simp only [Act.put, List.setIfInBounds_toArray, List.set_cons_zero, List.set_cons_succ])
  (refine wpAnyM_takeP (i := 10) (oi := ?_) (v := ?_) ?_ ?_ ?_ ?_ ?_ ?_ ?_ ?_ ?_; rotate_left 2; (· simp only [List.getElem?_toArray, List.getElem?_cons_succ, List.getElem?_cons_zero]; exact rfl); (· kernel_rfl); (· kernel_rfl); (· kernel_rfl); (· kernel_rfl); (· first | exact fun _ _ _ h => h | exact fun _ _ _ h => (HPan.out _ _ _ h).elim); (· (refine Or.inl ⟨by rfl, ?_⟩; (intro w hSw; (try dsimp only at hSw); go_simp) <;> with_reducible rfl)); (· exact fun _ => hHeld); simp only [Act.put, List.setIfInBounds_toArray, List.set_cons_zero, List.set_cons_succ])
  (refine wpAnyM_take (i := 11) (oi := ?_) (v := ?_) ?_ ?_ ?_ ?_ ?_ ?_ ?_ ?_ ?_ ?_; rotate_left 2; (· simp only [List.getElem?_toArray, List.getElem?_cons_succ, List.getElem?_cons_zero]; exact rfl); (· kernel_rfl); (· kernel_rfl); (· kernel_rfl); (· kernel_rfl); (· kernel_rfl); (· first | exact fun _ _ _ h => h | exact fun _ _ _ h => (HPan.out _ _ _ h).elim); (· (refine Or.inl ⟨by rfl, ?_⟩; (intro w hSw; (try dsimp only at hSw); go_simp) <;> with_reducible rfl)); (· assumption); simp only [Act.put, List.setIfInBounds_toArray, List.set_cons_zero, List.set_cons_succ])
  refine wpAnyM_ready (rs := [4]) (by kernel_rfl) (by simp) ?_
  refine AllReadyM.cons (o := ?_) ?_ ?_ ?_
  rotate_left 1
  · simp only [List.getElem?_toArray, List.getElem?_cons_succ, List.getElem?_cons_zero]; exact rfl
  rotate_left 1
  · exact AllReadyM.nil
  intro K hK
  go_simp
  go_wp2_with ((go_at_call 73; obtain ⟨SR, hrd⟩ := HR.out _ [_, _] HCUR.out; refine (st_newres HCUR.out _ rs SR (by rw [HRL.out]; exact hrd)).mono ?_; rintro e w2 ⟨rb, rfl, h⟩; replace HCUR := Lib.hid h.first; clear h hrd))
  refine hK.out _ _ ?_ (fun hHeld => ?_)
  · (try dsimp only); (first | exact ⟨c0, c1, c3⟩ | (have hb2 := HCUR.out.blk 2 rfl; exact ⟨by rw [hb2.cell]; rfl, by rw [hb2.cell]; rfl, by rw [hb2.cell]; rfl⟩) | (have hb2 := HCUR.out.blk 3 rfl; exact ⟨by rw [hb2.cell]; rfl, by rw [hb2.cell]; rfl, by rw [hb2.cell]; rfl⟩) | (have hb2 := HCUR.out.blk 3 rfl; refine ⟨?_, ?_, ?_⟩ <;> exact ((Keep.refl _ Nope).alloc _).cell (by rw [hb2.cell]; rfl) (fun f => f)))
  clear hK K
  (refine wpAnyM_takeP (i := 5) (oi := ?_) (v := ?_) ?_ ?_ ?_ ?_ ?_ ?_ ?_ ?_ ?_; rotate_left 2; (· simp only [List.getElem?_toArray, List.getElem?_cons_succ, List.getElem?_cons_zero]; exact rfl); (· kernel_rfl); (· kernel_rfl); (· kernel_rfl); (· kernel_rfl); (· first | exact fun _ _ _ h => h | exact fun _ _ _ h => (HPan.out _ _ _ h).elim); (· (refine Or.inl ⟨by rfl, ?_⟩; (intro w hSw; (try dsimp only at hSw); go_simp) <;> with_reducible rfl)); (· exact fun _ => hHeld); simp only [Act.put, List.setIfInBounds_toArray, List.set_cons_zero, List.set_cons_succ])
  refine wpAnyM_ready (rs := [6]) (by kernel_rfl) (by simp) ?_
  refine AllReadyM.cons (o := ?_) ?_ ?_ ?_
  rotate_left 1
  · simp only [List.getElem?_toArray, List.getElem?_cons_succ, List.getElem?_cons_zero]; exact rfl
  rotate_left 1
  · exact AllReadyM.nil
  intro K hK
  go_simp
  go_wp2_with ((go_at_call 74; refine (st_newq HCUR.out).mono ?_; rintro e w3 ⟨qb, rfl, h⟩; replace HCUR := Lib.hid h.first; clear h))
  refine hK.out _ _ ?_ (fun hHeld => ?_)
  · (try dsimp only); (first | exact ⟨c0, c1, c3⟩ | (have hb2 := HCUR.out.blk 2 rfl; exact ⟨by rw [hb2.cell]; rfl, by rw [hb2.cell]; rfl, by rw [hb2.cell]; rfl⟩) | (have hb2 := HCUR.out.blk 3 rfl; exact ⟨by rw [hb2.cell]; rfl, by rw [hb2.cell]; rfl, by rw [hb2.cell]; rfl⟩) | (have hb2 := HCUR.out.blk 3 rfl; refine ⟨?_, ?_, ?_⟩ <;> exact ((Keep.refl _ Nope).alloc _).cell (by rw [hb2.cell]; rfl) (fun f => f)))
  clear hK K
  (refine wpAnyM_takeP (i := 7) (oi := ?_) (v := ?_) ?_ ?_ ?_ ?_ ?_ ?_ ?_ ?_ ?_; rotate_left 2; (· simp only [List.getElem?_toArray, List.getElem?_cons_succ, List.getElem?_cons_zero]; exact rfl); (· kernel_rfl); (· kernel_rfl); (· kernel_rfl); (· kernel_rfl); (· first | exact fun _ _ _ h => h | exact fun _ _ _ h => (HPan.out _ _ _ h).elim); (· (refine Or.inl ⟨by rfl, ?_⟩; (intro w hSw; (try dsimp only at hSw); go_simp) <;> with_reducible rfl)); (· exact fun _ => hHeld); simp only [Act.put, List.setIfInBounds_toArray, List.set_cons_zero, List.set_cons_succ])
  (refine wpAnyM_takeP (i := 12) (oi := ?_) (v := ?_) ?_ ?_ ?_ ?_ ?_ ?_ ?_ ?_ ?_; rotate_left 2; (· simp only [List.getElem?_toArray, List.getElem?_cons_succ, List.getElem?_cons_zero]; exact rfl); (· kernel_rfl); (· kernel_rfl); (· kernel_rfl); (· kernel_rfl); (· first | exact fun _ _ _ h => h | exact fun _ _ _ h => (HPan.out _ _ _ h).elim); (· (refine Or.inl ⟨by rfl, ?_⟩; (intro w hSw; (try dsimp only at hSw); go_simp) <;> with_reducible rfl)); (· exact fun _ => hHeld); simp only [Act.put, List.setIfInBounds_toArray, List.set_cons_zero, List.set_cons_succ])
  refine wpAnyM_ready (rs := [13]) (by kernel_rfl) (by simp) ?_
  refine AllReadyM.cons (o := ?_) ?_ ?_ ?_
  rotate_left 1
  · simp only [List.getElem?_toArray, List.getElem?_cons_succ, List.getElem?_cons_zero]; exact rfl
  rotate_left 1
  · exact AllReadyM.nil
  intro K hK
  go_simp
  refine hK.out _ _ ?_ (fun hHeld => ?_)
  · (try dsimp only); (first | exact ⟨c0, c1, c3⟩ | (have hb2 := HCUR.out.blk 2 rfl; exact ⟨by rw [hb2.cell]; rfl, by rw [hb2.cell]; rfl, by rw [hb2.cell]; rfl⟩) | (have hb2 := HCUR.out.blk 3 rfl; exact ⟨by rw [hb2.cell]; rfl, by rw [hb2.cell]; rfl, by rw [hb2.cell]; rfl⟩) | (have hb2 := HCUR.out.blk 3 rfl; refine ⟨?_, ?_, ?_⟩ <;> exact ((Keep.refl _ Nope).alloc _).cell (by rw [hb2.cell]; rfl) (fun f => f)))
  clear hK K
  refine wpAnyM_ready (rs := [14]) (by kernel_rfl) (by simp) ?_
  refine AllReadyM.free (o := ?_) ?_ (by kernel_rfl) ?_ ?_
  rotate_left 1
  · simp only [List.getElem?_toArray, List.getElem?_cons_succ, List.getElem?_cons_zero]; exact rfl
  rotate_left 1
  · exact AllReadyM.nil
  intro K hK
  go_simp
  refine hK.out _ _ ?_
  clear hK K
  (refine wpAnyM_takeP (i := 15) (oi := ?_) (v := ?_) ?_ ?_ ?_ ?_ ?_ ?_ ?_ ?_ ?_; rotate_left 2; (· simp only [List.getElem?_toArray, List.getElem?_cons_succ, List.getElem?_cons_zero]; exact rfl); (· kernel_rfl); (· kernel_rfl); (· kernel_rfl); (· kernel_rfl); (· first | exact fun _ _ _ h => h | exact fun _ _ _ h => (HPan.out _ _ _ h).elim); (· (refine Or.inl ⟨by rfl, ?_⟩; (intro w hSw; (try dsimp only at hSw); go_simp) <;> with_reducible rfl)); (· exact fun h => Bool.noConfusion (show true = false from h)); simp only [Act.put, List.setIfInBounds_toArray, List.set_cons_zero, List.set_cons_succ])
  refine wpAnyM_done (by kernel_rfl) ?_ _
  have hbx := HCUR.out.box0 #[.pointer (some ⟨eb, 0, none⟩), .pointer (some ⟨rb, 0, none⟩), .pointer (some ⟨qb, 0, none⟩), .bool false, .int .i64 (n : Nat), .int .i64 (top : Nat)] 124
  obtain ⟨pe, hs⟩ := St.exTop (f := entL eb E) (L := resA rb (rs.take 32) :: qA qb [] :: blkA w3.heap.size #[.pointer (some ⟨eb, 0, none⟩), .pointer (some ⟨rb, 0, none⟩), .pointer (some ⟨qb, 0, none⟩), .bool false, .int .i64 (n : Nat), .int .i64 (top : Nat)] 124 :: L) (St.sel (P := [_, _, _, _, _]) (P' := [entA eb E, resA rb (rs.take 32), qA qb [], blkA w3.heap.size #[.pointer (some ⟨eb, 0, none⟩), .pointer (some ⟨rb, 0, none⟩), .pointer (some ⟨qb, 0, none⟩), .bool false, .int .i64 (n : Nat), .int .i64 (top : Nat)] 124]) (R := L) [3, 2, 1, 0] hbx (by decide) rfl rfl)
  have hs2 := St.ofMid (P := entL eb E pe ++ [resA rb (rs.take 32), qA qb []]) (R := L) (by rw [List.append_assoc]; exact hs)
  have HF := Lib.hid (St.pack (woL w3.heap.size ⟨E, rs.take 32, [], n, top⟩) ⟨eb, rb, qb, pe⟩ hs2)
  clear hHeld
  go_wp2_with fail
  go_ret2
  refine ⟨w3.heap.size, rfl, ?_⟩
  have h := HF.out
  rw [HEE.out] at h
  exact h
end Go.Proofs.YtkiikblpgppmkaaGreatDoor

namespace Go.Proofs.YtkiikblpgppmkaaGreatDoor
open Go Go.RowKit
set_option linter.unusedVariables false
set_option linter.unusedSimpArgs false

/-- Behind n rounds. -/
def spAl (s t n : Nat) : AlS := ⟨2 ^ s - 2 ^ (n / t), 0, 0, t, (List.range s).map (fun i => if i < n / t then t else if i = n / t then n % t else 0), n / t⟩
/-- What a round does, decided. -/
def spOk (s t n : Nat) : Bool :=
  let a := spAl s t n
  let k := n / t
  let g := n % t + 1
  decide (firstW a.free 0 = (k : Int)) && decide (a.gen k = n % t) && decide ((a.made k).gen k = g) && decide ((a.rose k).merged = a.made k) && decide ((a.made k).took k ((g : Nat) : Int) = spAl s t (n + 1)) && decide ((a.made k).st (k : Int) ((g : Nat) : Int) = 1) && decide ((a.made k).merged = a.made k)
theorem sp_dec : ∀ s, s < 10 → ∀ t, t < 4 → ∀ n, n < 40 → n < (s + 1) * (t + 1) → spOk (s + 1) (t + 1) n = true := by decide +kernel
def spEnd (s t : Nat) : Bool := let a := spAl s t (s * t); decide (firstW a.free 0 = -1) && decide (pop a.live + pop a.raised = 0)
theorem sp_dec_end : ∀ s, s < 10 → ∀ t, t < 4 → spEnd (s + 1) (t + 1) = true := by decide +kernel
theorem sp_dec_new : ∀ s, s < 10 → ∀ t, t < 4 → newAl (s + 1) (t + 1) = spAl (s + 1) (t + 1) 0 := by decide +kernel

structure SpStep (s t n : Nat) : Prop where
  first : firstW (spAl s t n).free 0 = ((n / t : Nat) : Int)
  gen : (spAl s t n).gen (n / t) = n % t
  made : ((spAl s t n).made (n / t)).gen (n / t) = n % t + 1
  rose : ((spAl s t n).rose (n / t)).merged = (spAl s t n).made (n / t)
  took : ((spAl s t n).made (n / t)).took (n / t) ((n % t + 1 : Nat) : Int) = spAl s t (n + 1)
  st : ((spAl s t n).made (n / t)).st ((n / t : Nat) : Int) ((n % t + 1 : Nat) : Int) = 1
  merged : ((spAl s t n).made (n / t)).merged = (spAl s t n).made (n / t)
theorem sp_step {s t n : Nat} (hs : 1 ≤ s) (hs' : s ≤ 10) (ht : 1 ≤ t) (ht' : t ≤ 4) (hn : n < s * t) : SpStep s t n := by
  have hm : s * t ≤ 10 * 4 := Nat.mul_le_mul hs' ht'
  have h := sp_dec (s - 1) (by omega) (t - 1) (by omega) n (by omega)
  rw [show s - 1 + 1 = s by omega, show t - 1 + 1 = t by omega] at h
  have h := h hn
  unfold spOk at h
  simp only [Bool.and_eq_true, decide_eq_true_eq] at h
  obtain ⟨⟨⟨⟨⟨⟨h1, h2⟩, h3⟩, h4⟩, h5⟩, h6⟩, h7⟩ := h
  exact ⟨h1, h2, h3, h4, h5, h6, h7⟩
theorem sp_end {s t : Nat} (hs : 1 ≤ s) (hs' : s ≤ 10) (ht : 1 ≤ t) (ht' : t ≤ 4) : firstW (spAl s t (s * t)).free 0 = -1 ∧ pop (spAl s t (s * t)).live + pop (spAl s t (s * t)).raised = 0 := by
  have h := sp_dec_end (s - 1) (by omega) (t - 1) (by omega)
  rw [show s - 1 + 1 = s by omega, show t - 1 + 1 = t by omega] at h
  unfold spEnd at h
  simp only [Bool.and_eq_true, decide_eq_true_eq] at h
  exact h
theorem sp_new {s t : Nat} (hs : 1 ≤ s) (hs' : s ≤ 10) (ht : 1 ≤ t) (ht' : t ≤ 4) : newAl s t = spAl s t 0 := by
  have h := sp_dec_new (s - 1) (by omega) (t - 1) (by omega)
  rwa [show s - 1 + 1 = s by omega, show t - 1 + 1 = t by omega] at h
theorem sp_stale (s t n : Nat) (i g : Int) : (spAl s t n).st i g = 0 := by
  unfold AlS.st spAl
  simp
theorem div_lt_of {s t n : Nat} (hn : n < s * t) : n / t < s := Nat.div_lt_of_lt_mul (by rw [Nat.mul_comm]; exact hn)
theorem spAl_ok {s t n : Nat} (hs : 1 ≤ s) (hs' : s ≤ 10) (ht : 1 ≤ t) (ht' : t ≤ 4) (hn : n ≤ s * t) : (spAl s t n).Ok := by
  induction n with
  | zero => rw [← sp_new hs hs' ht ht']; exact newAl_ok hs (by omega) ht (by omega)
  | succ n ih =>
    have h := sp_step hs hs' ht ht' (n := n) (by omega)
    have hf : (spAl s t n).free.testBit (n / t) = true := (firstW_some h.first).2.2.1
    have hm := (ih (by omega)).made hf
    rw [← h.took]
    exact hm.took (by simpa [AlS.made, AlS.gave] using (ih (by omega)).free _ hf) (by rw [h.made])
end Go.Proofs.YtkiikblpgppmkaaGreatDoor

namespace Go.Proofs.YtkiikblpgppmkaaGreatDoor
open Go Go.RowKit
set_option linter.unusedVariables false
set_option linter.unusedSimpArgs false

theorem wo_raise {w0 w : World} {R : List Asr} {b : Nat} {x : WoS} {p : WoB} (H : St w0 w (woL b x p ++ R)) (hT : Tab w0) (hx : x.en.al.Ok) (k : Nat) (hk : firstW x.en.al.free 0 = (k : Int)) :
    Calls Tryz.prog 33 #[ptr p.e.ab] w (fun e w' => e = .returned (.tuple #[hdV k ((x.en.al.gen k + 1 : Nat) : Int), .int .i64 0]) ∧ St w0 w' (woL b (x.withE (x.en.withA (x.en.al.rose k))) p ++ R)) := by
  refine (al_raise (St.woEnt H) 1 rfl hT hx k hk).mono ?_
  rintro e w' ⟨rfl, h⟩
  exact ⟨rfl, St.woEnt' (e := x.en.withA (x.en.al.rose k)) h⟩
theorem wo_raise_no {w0 w : World} {R : List Asr} {b : Nat} {x : WoS} {p : WoB} (H : St w0 w (woL b x p ++ R)) (hT : Tab w0) (hx : x.en.al.Ok) (hk : firstW x.en.al.free 0 = -1) :
    Calls Tryz.prog 33 #[ptr p.e.ab] w (Ret w (.tuple #[hdV 0 0, .int .i64 x.en.al.noE])) := al_raise_no (H.woAl hx) (hT.st H) hk

/-- The one component: a tag, in no place. -/
def spSl (m : Nat) (f : Nat → VV) : SlS := ⟨4, 3, m, f, none⟩
theorem spSl_ok {m : Nat} (hm : m < 2 ^ 64) (f : Nat → VV) (n : Nat) : (spSl m f).Ok n := ⟨.inr rfl, .inr (.inr rfl), fun _ => rfl, hm, fun F hF => by cases hF⟩
def spX (s t : Nat) (a : AlS) (m : Nat) (f : Nat → VV) (q : List OpV) : WoS := ⟨⟨a, [spSl m f]⟩, [], q, s, t⟩
/-- Behind n rounds. -/
def spWo (s t n : Nat) (f : Nat → VV) : WoS := spX s t (spAl s t n) 0 f []
/-- A thing is made. -/
def spIn (s t n : Nat) (f : Nat → VV) : WoS := spX s t ((spAl s t n).made (n / t)) 0 f []
/-- A thing is raised. -/
def spRo (s t n : Nat) (f : Nat → VV) : WoS := spX s t ((spAl s t n).rose (n / t)) 0 f []
def spV : VV := ⟨3, 0, 0⟩
def spM (t n : Nat) : Nat := addW 0 (n / t)
def spF (t n : Nat) (f : Nat → VV) : Nat → VV := updV f (n / t) spV
/-- It has its part. -/
def spHad (s t n : Nat) (f : Nat → VV) : WoS := spX s t ((spAl s t n).made (n / t)) (spM t n) (spF t n f) []
def spOp (t n : Nat) : OpV := ⟨1, ((n / t : Nat) : Int), ((n % t + 1 : Nat) : Int), 0, 0, 0, 0⟩
/-- Its end waits. -/
def spQ (s t n : Nat) (f : Nat → VV) : WoS := spX s t ((spAl s t n).made (n / t)) (spM t n) (spF t n f) [spOp t n]
/-- The handle of a round. -/
def spH (t n : Nat) : HdV := ⟨((n / t : Nat) : Int), ((n % t + 1 : Nat) : Int)⟩

theorem sp_newWo {s t : Nat} (hs : 1 ≤ s) (hs' : s ≤ 10) (ht : 1 ≤ t) (ht' : t ≤ 4) (f : Nat → VV) : newWo s t [⟨3, 4, 0⟩] f [] = spWo s t 0 f := by
  unfold newWo spWo spX
  rw [sp_new hs hs' ht ht']
  rfl
structure SpN (s t n : Nat) : Prop where
  s1 : 1 ≤ s
  s2 : s ≤ 10
  t1 : 1 ≤ t
  t2 : t ≤ 4
  n : n ≤ s * t
theorem SpN.ok {s t n : Nat} (h : SpN s t n) : (spAl s t n).Ok := spAl_ok h.s1 h.s2 h.t1 h.t2 h.n
theorem SpN.step {s t n : Nat} (h : SpN s t n) (hn : n < s * t) : SpStep s t n := sp_step h.s1 h.s2 h.t1 h.t2 hn
theorem SpN.free {s t n : Nat} (h : SpN s t n) (hn : n < s * t) : (spAl s t n).free.testBit (n / t) = true := (firstW_some (h.step hn).first).2.2.1
theorem SpN.made {s t n : Nat} (h : SpN s t n) (hn : n < s * t) : ((spAl s t n).made (n / t)).Ok := h.ok.made (h.free hn)
theorem SpN.rose {s t n : Nat} (h : SpN s t n) (hn : n < s * t) : ((spAl s t n).rose (n / t)).Ok := h.ok.rose (h.free hn)
theorem SpN.lt {s t n : Nat} (h : SpN s t n) (hn : n < s * t) : n / t < 64 := by
  have := div_lt_of hn
  have := h.s2
  omega
theorem SpN.had {s t n : Nat} (h : SpN s t n) (hn : n < s * t) (f : Nat → VV) : (spHad s t n f).en.Ok 90000 := ⟨h.made hn, fun x hx => by
  have e := List.mem_singleton.1 hx
  rw [e]
  refine spSl_ok ?_ _ _
  unfold spM
  exact lt_of_bits (Nat.le_refl 64) (bits_add (fun k hk => by simp at hk) (h.lt hn)), by show 1 ≤ 64; decide⟩
theorem SpN.inn {s t n : Nat} (h : SpN s t n) (hn : n < s * t) (f : Nat → VV) : (spIn s t n f).en.Ok 90000 := ⟨h.made hn, fun x hx => by
  have e := List.mem_singleton.1 hx
  rw [e]
  exact spSl_ok (by decide) _ _, by show 1 ≤ 64; decide⟩
theorem SpN.gen {s t n : Nat} (h : SpN s t n) (hn : n < s * t) : ((spAl s t n).made (n / t)).gen (n / t) = n % t + 1 := (h.step hn).made
theorem sp_del {s t n : Nat} (h : SpN s t n) (hn : n < s * t) (f : Nat → VV) : (⟨(spAl s t n).made (n / t), [spSl (spM t n) (spF t n f)]⟩ : EnS).del (n / t) = ⟨spAl s t (n + 1), [spSl 0 (spF t n f)]⟩ := by
  unfold EnS.del
  rw [h.gen hn, (h.step hn).took]
  have e : delW (spM t n) (n / t) = 0 := by
    apply Nat.eq_of_testBit_eq
    intro i
    rw [Nat.zero_testBit]
    unfold spM
    cases hb : (delW (addW 0 (n / t)) (n / t)).testBit i with
    | false => rfl
    | true =>
      obtain ⟨h1, h2⟩ := bit_del_le hb
      rw [bit_add] at h1
      simp at h1
      exact absurd h1.symm (fun e => h2 e.symm)
  show (⟨spAl s t (n + 1), [SlS.take (spSl (spM t n) (spF t n f)) (n / t)]⟩ : EnS) = _
  rw [show SlS.take (spSl (spM t n) (spF t n f)) (n / t) = spSl (delW (spM t n) (n / t)) (spF t n f) from by unfold SlS.take spSl; simp only; split <;> rfl, e]

variable {w0 w : World} {R : List Asr} {b s t n : Nat} {p : WoB} {f : Nat → VV}
theorem sp_create (H : St w0 w (woL b (spWo s t n f) p ++ R)) (hT : Tab w0) (h : SpN s t n) (hn : n < s * t) :
    Calls Tryz.prog 14 #[ptr b] w (fun e w' => e = .returned (.tuple #[hdV (spH t n).i (spH t n).g, .int .i64 0]) ∧ St w0 w' (woL b (spIn s t n f) p ++ R)) := by
  refine (wo_create H hT h.ok (n / t) (h.step hn).first).mono ?_
  rintro e w' ⟨rfl, h1⟩
  refine ⟨?_, h1⟩
  show _ = Ending.returned (.tuple #[hdV ((n / t : Nat) : Int) ((n % t + 1 : Nat) : Int), .int .i64 0])
  rw [show (spWo s t n f).en.al.gen (n / t) = n % t from (h.step hn).gen]
theorem sp_raise (H : St w0 w (woL b (spWo s t n f) p ++ R)) (hT : Tab w0) (h : SpN s t n) (hn : n < s * t) :
    Calls Tryz.prog 33 #[ptr p.e.ab] w (fun e w' => e = .returned (.tuple #[hdV (spH t n).i (spH t n).g, .int .i64 0]) ∧ St w0 w' (woL b (spRo s t n f) p ++ R)) := by
  refine (wo_raise H hT h.ok (n / t) (h.step hn).first).mono ?_
  rintro e w' ⟨rfl, h1⟩
  refine ⟨?_, h1⟩
  show _ = Ending.returned (.tuple #[hdV ((n / t : Nat) : Int) ((n % t + 1 : Nat) : Int), .int .i64 0])
  rw [show (spWo s t n f).en.al.gen (n / t) = n % t from (h.step hn).gen]
theorem sp_end_e (h : SpN s t n) (hn : n = s * t) : (spAl s t n).noE = 7 := by
  subst hn
  unfold AlS.noE
  rw [(sp_end h.s1 h.s2 h.t1 h.t2).2]
  rfl
theorem sp_create_no (H : St w0 w (woL b (spWo s t n f) p ++ R)) (hT : Tab w0) (h : SpN s t n) (hn : n = s * t) :
    Calls Tryz.prog 14 #[ptr b] w (Ret w (.tuple #[hdV 0 0, .int .i64 7])) := by
  have h1 := wo_create_no H hT h.ok (by subst hn; exact (sp_end h.s1 h.s2 h.t1 h.t2).1)
  rwa [show (spWo s t n f).en.al.noE = 7 from sp_end_e h hn] at h1
theorem sp_raise_no (H : St w0 w (woL b (spWo s t n f) p ++ R)) (hT : Tab w0) (h : SpN s t n) (hn : n = s * t) :
    Calls Tryz.prog 33 #[ptr p.e.ab] w (Ret w (.tuple #[hdV 0 0, .int .i64 7])) := by
  have h1 := wo_raise_no H hT h.ok (by subst hn; exact (sp_end h.s1 h.s2 h.t1 h.t2).1)
  rwa [show (spWo s t n f).en.al.noE = 7 from sp_end_e h hn] at h1
/-- What Maintain answers is let go. -/
def RetMt (w0 : World) (b : Nat) (x : WoS) (p : WoB) (R : List Asr) (e : Ending) (w' : World) : Prop := ∃ r a s : Nat, e = .returned (.tuple #[.agg #[.int .i64 (r : Nat), .int .i64 (a : Nat), .int .i64 (s : Nat)], .int .i64 0]) ∧ St w0 w' (woL b x p ++ R)
theorem sp_maint0 {a : AlS} {m : Nat} (H : St w0 w (woL b (spX s t a m f []) p ++ R)) (hT : Tab w0) (ha : a.Ok) :
    Calls Tryz.prog 20 #[ptr b] w (RetMt w0 b (spX s t a.merged m f []) p R) := by
  refine (wo_maintain H hT ha (by show 0 ≤ 10000; decide) (fun _ => ⟨a.merged, [spSl m f]⟩) rfl (fun j o ho => by cases ho)).mono ?_
  rintro e w' ⟨r, a', s', rfl, _, h⟩
  exact ⟨r, a', s', rfl, h⟩
theorem sp_maint1 (H : St w0 w (woL b (spRo s t n f) p ++ R)) (hT : Tab w0) (h : SpN s t n) (hn : n < s * t) :
    Calls Tryz.prog 20 #[ptr b] w (RetMt w0 b (spIn s t n f) p R) := by
  have h1 := sp_maint0 H hT (h.rose hn)
  rw [(h.step hn).rose] at h1
  exact h1
theorem sp_merged0 : (spAl s t n).merged = spAl s t n := by
  unfold AlS.merged
  rw [show (spAl s t n).raised = 0 from rfl, listW_zero]
  rfl
theorem sp_maint3 (H : St w0 w (woL b (spWo s t n f) p ++ R)) (hT : Tab w0) (h : SpN s t n) :
    Calls Tryz.prog 20 #[ptr b] w (RetMt w0 b (spWo s t n f) p R) := by
  have h1 := sp_maint0 H hT h.ok
  rw [sp_merged0] at h1
  exact h1
theorem sp_insert (H : St w0 w (woL b (spIn s t n f) p ++ R)) (h : SpN s t n) (hn : n < s * t) :
    Calls Tryz.prog 15 #[ptr b, hdV (spH t n).i (spH t n).g, .int .i64 0, .agg #[.int .i64 3, .int .i64 0, .int .i64 0]] w (fun en w' => ∃ v : VV, en = .returned (.tuple #[v.val, .bool false, .int .i64 0]) ∧ St w0 w' (woL b (spHad s t n f) p ++ R)) := by
  refine (wo_insert H (h.inn hn f) (n / t) ((n % t + 1 : Nat) : Int) (h.step hn).st 0 (spSl 0 f) rfl spV rfl rfl).mono ?_
  rintro e w' ⟨rfl, h1⟩
  refine ⟨hadV 0 f (n / t), ?_, h1⟩
  show Ending.returned (.tuple #[(hadV 0 f (n / t)).val, .bool (Nat.testBit 0 (n / t)), .int .i64 0]) = _
  rw [Nat.zero_testBit]
theorem sp_delete (H : St w0 w (woL b (spHad s t n f) p ++ R)) (h : SpN s t n) (hn : n < s * t) :
    Calls Tryz.prog 18 #[ptr b, hdV (spH t n).i (spH t n).g] w (fun e w' => ∃ m : Nat, e = .returned (.tuple #[.int .i64 (m : Nat), .int .i64 0]) ∧ St w0 w' (woL b (spWo s t (n + 1) (spF t n f)) p ++ R)) := by
  have hg := h.gen hn
  have hr : ((spAl s t n).made (n / t)).ret ≤ 1000000 := by
    show n / t ≤ 1000000
    have := h.lt hn
    omega
  have h1 := wo_delete H (h.had hn f) hr (n / t) (by
    show ((spAl s t n).made (n / t)).st ((n / t : Nat) : Int) ((((spAl s t n).made (n / t)).gen (n / t) : Nat) : Int) = 1
    rw [hg]
    exact (h.step hn).st)
  rw [show (spHad s t n f).en.al.gen (n / t) = n % t + 1 from hg] at h1
  refine h1.mono ?_
  rintro e w' ⟨rfl, h2⟩
  refine ⟨_, rfl, ?_⟩
  rw [show (spHad s t n f).en.del (n / t) = _ from sp_del h hn f] at h2
  exact h2
theorem sp_defer (H : St w0 w (woL b (spHad s t n f) p ++ R)) (h : SpN s t n) (hn : n < s * t) (S : Nat → Prop) (v : Value) (hv : Rd S w v 1 (spOp t n).cells) :
    Calls Tryz.prog 19 #[ptr b, v] w (fun e w' => e = .returned (.int .i64 0) ∧ St w0 w' (woL b (spQ s t n f) p ++ R)) := by
  refine (wo_defer H (h.had hn f).al S [spOp t n] v (by show Rd S w v 1 ((spOp t n).cells ++ []); rwa [List.append_nil]) (fun o ho => ?_) (fun o ho => ?_) (fun o ho w' _ => ?_) (by show 0 + 1 ≤ 10000; decide)).mono ?_
  · rw [List.mem_singleton.1 ho]
    rfl
  · rw [List.mem_singleton.1 ho]
    show ((spAl s t n).made (n / t)).st ((n / t : Nat) : Int) ((n % t + 1 : Nat) : Int) ≠ 0
    rw [(h.step hn).st]
    decide
  · rw [List.mem_singleton.1 ho]
    exact wo_knows_del b _ w' rfl
  · rintro e w' ⟨rfl, h1⟩
    exact ⟨rfl, h1⟩
theorem sp_maint2 (H : St w0 w (woL b (spQ s t n f) p ++ R)) (hT : Tab w0) (h : SpN s t n) (hn : n < s * t) :
    Calls Tryz.prog 20 #[ptr b] w (RetMt w0 b (spWo s t (n + 1) (spF t n f)) p R) := by
  have hg := h.gen hn
  have hr : ((spAl s t n).made (n / t)).ret ≤ 1000000 := by
    show n / t ≤ 1000000
    have := h.lt hn
    omega
  refine (wo_maintain H hT (h.had hn f).al (by show 1 ≤ 10000; decide) (fun j => if j = 0 then ⟨(spAl s t n).made (n / t), [spSl (spM t n) (spF t n f)]⟩ else ⟨spAl s t (n + 1), [spSl 0 (spF t n f)]⟩) ?_ (fun j o ho w1 R1 h1 => ?_)).mono ?_
  · show (⟨(spAl s t n).made (n / t), [spSl (spM t n) (spF t n f)]⟩ : EnS) = ⟨((spAl s t n).made (n / t)).merged, [spSl (spM t n) (spF t n f)]⟩
    rw [(h.step hn).merged]
  · match j, ho with
    | 0, ho =>
      cases ho
      have h2 := wo_apply_del (x := spHad s t n f) h1 (h.had hn f) hr (n / t) (by
        show ((spAl s t n).made (n / t)).st ((n / t : Nat) : Int) ((((spAl s t n).made (n / t)).gen (n / t) : Nat) : Int) = 1
        rw [hg]
        exact (h.step hn).st) (spOp t n) rfl rfl (by
        show ((n % t + 1 : Nat) : Int) = ((((spAl s t n).made (n / t)).gen (n / t) : Nat) : Int)
        rw [hg])
      refine h2.mono ?_
      rintro e w' ⟨rfl, h3⟩
      rw [show (spHad s t n f).en.del (n / t) = _ from sp_del h hn f] at h3
      exact ⟨true, rfl, h3⟩
    | (_ + 1), ho => cases ho
  · rintro e w' ⟨r, a', s', rfl, _, h3⟩
    exact ⟨r, a', s', rfl, h3⟩
/-- The handles of all rounds so far. -/
def spHs (t n : Nat) : List HdV := (List.range n).map (spH t)
theorem spHs_len (t n : Nat) : (spHs t n).length = n := by unfold spHs; simp
theorem spHs_flat (t n : Nat) : flatHd (spHs t (n + 1)) = flatHd (spHs t n) ++ [.int .i64 (spH t n).i, .int .i64 (spH t n).g] := by
  unfold spHs
  rw [List.range_succ, List.map_append, flatHd_app]
  rfl
theorem sp_get (H : St w0 w (woL b (spWo s t n f) p ++ R)) (h : SpN s t n) (i g : Int) :
    Calls Tryz.prog 31 #[ptr b, hdV i g, .int .i64 0] w (Ret w (.tuple #[zV, .int .i64 4])) := wo_get_gone H h.ok i g 0 (sp_stale s t n i g)
end Go.Proofs.YtkiikblpgppmkaaGreatDoor

namespace Go.Proofs.YtkiikblpgppmkaaGreatDoor
open Go Go.RowKit
set_option linter.unusedVariables false
set_option linter.unusedSimpArgs false

set_option maxHeartbeats 1000000 in
theorem join_none (lb : Nat) (w : World) : Calls Tryz.prog 256 #[.int .i64 3, .slice (some ⟨lb, 0, none⟩) 0 64] w (fun e w' => e = .returned (.int .u64 0) ∧ w = w') := by
  go_enter Tryz.func256, Tryz.ntmps256
  go_wp2_with fail
  refine wp_loop_rounds 1 ?_
  rw [rounds_succ]
  go_wp2_with fail
  go_ret
  exact ⟨rfl, rfl⟩
theorem xor_max0 : bits .xor .u64 IntKind.u64.max 0 = 18446744073709551615 := by decide
theorem and_full {a : Nat} (ha : a < 2 ^ 64) : bits .and .u64 18446744073709551615 (a : Int) = (a : Int) := by
  have h := bits_and 18446744073709551615 a (by decide) ha
  rw [show (18446744073709551615 : Nat) &&& a = a by
    apply Nat.eq_of_testBit_eq
    intro i
    rw [Nat.testBit_and, show (18446744073709551615 : Nat) = 2 ^ 64 - 1 by decide, Nat.testBit_two_pow_sub_one]
    by_cases h : i < 64
    · simp [h]
    · rw [Nat.testBit_lt_two_pow (Nat.lt_of_lt_of_le ha (Nat.pow_le_pow_right (by decide) (by omega)))]
      simp [h]] at h
  exact h
theorem and_full' {a : Nat} (ha : a < 2 ^ 64) : bits .and .u64 (a : Int) 18446744073709551615 = (a : Int) := by
  have h := bits_and a 18446744073709551615 ha (by decide)
  rw [Nat.and_comm] at h
  have h2 := bits_and 18446744073709551615 a (by decide) ha
  exact h.trans (h2.symm.trans (and_full ha))
theorem and_lt {a b : Nat} (ha : a < 2 ^ 64) : a &&& b < 2 ^ 64 := Nat.lt_of_le_of_lt Nat.and_le_left ha
set_option maxHeartbeats 1000000 in
theorem join_and (lb a b : Nat) (ha : a < 2 ^ 64) (hb : b < 2 ^ 64) (w : World) (h0 : w.cell? ⟨lb, 0, none⟩ = some (.int .u64 (a : Nat))) (h1 : w.cell? ⟨lb, 1, none⟩ = some (.int .u64 (b : Nat))) (h2 : w.cell? ⟨lb, 2, none⟩ = some (.int .u64 18446744073709551615)) :
    Calls Tryz.prog 256 #[.int .i64 2, .slice (some ⟨lb, 0, none⟩) 3 64] w (fun e w' => e = .returned (.int .u64 ((a &&& b : Nat) : Int)) ∧ w = w') := by
  have hs : IntKind.u64.signed = false := rfl
  have e0 := xor_max0
  have e1 := and_full ha
  have e2 := bits_and a b ha hb
  have e3 := and_full' (and_lt (b := b) ha)
  obtain ⟨c, hc⟩ : ∃ c, a &&& b = c := ⟨_, rfl⟩
  rw [hc] at e2 e3 ⊢
  clear ha hb hc
  go_enter Tryz.func256, Tryz.ntmps256
  go_wp2_with fail
  refine wp_loop_rounds 4 ?_
  rw [rounds_succ]
  go_wp2_with fail
  rw [rounds_succ]
  go_wp2_with fail
  rw [rounds_succ]
  go_wp2_with fail
  rw [rounds_succ]
  go_wp2_with fail
  go_ret
  exact ⟨rfl, rfl⟩
end Go.Proofs.YtkiikblpgppmkaaGreatDoor
