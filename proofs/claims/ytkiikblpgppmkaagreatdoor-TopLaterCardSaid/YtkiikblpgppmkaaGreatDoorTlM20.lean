/-
  The package lazy: what each call of a queue answers and leaves; The package world: the claim; free, may, Create; The package world: Create, Delete, Insert, Get of what is gone.
-/
import Derived.Test.YtkiikblpgppmkaaGreatDoorTlM19
namespace Go.Proofs.YtkiikblpgppmkaaGreatDoor
open Go Go.RowKit
set_option linter.unusedVariables false
set_option linter.unusedSimpArgs false

/-- A queue at block b, in which l waits; its own blocks lie in S. -/
def IsQ (S : Nat → Prop) (w : World) (b : Nat) (l : List OpV) : Prop :=
  ∃ a n c, Blk w b #[.slice a n c] 255 ∧ S b ∧ Own S w 79 7 (.slice a n c) n (flatOp l) ∧ n = l.length ∧ n ≤ 10000
theorem IsQ.keep {S T : Nat → Prop} {w w' : World} {b : Nat} {l : List OpV} (h : IsQ S w b l) (hk : Keep w w' T) (hd : ∀ i, S i → T i → False) : IsQ S w' b l := by
  obtain ⟨a, n, c, h1, h2, h3, h4⟩ := h
  exact ⟨a, n, c, h1.keep hk (hd b h2), h2, h3.keep hk hd, h4⟩
theorem IsQ.mono {S T : Nat → Prop} {w : World} {b : Nat} {l : List OpV} (h : IsQ S w b l) (hT : ∀ i, S i → T i) : IsQ T w b l := by
  obtain ⟨a, n, c, h1, h2, h3, h4⟩ := h
  exact ⟨a, n, c, h1, hT b h2, h3.mono hT, h4⟩
/-- A pointer to a new queue, empty; nothing old has turned. -/
def RetQ (w : World) (en : Ending) (w' : World) : Prop :=
  ∃ b, en = .returned (.pointer (some ⟨b, 0, none⟩)) ∧ IsQ (New w w') w' b [] ∧ Keep w w' Nope

set_option maxHeartbeats 400000 in
theorem q_new (w : World) : Calls Tryz.prog 74 #[] w (RetQ w) := by
  go_enter Tryz.func74, Tryz.ntmps74
  go_wp2_with fail
  go_ret
  exact ⟨_, rfl, ⟨_, _, _, Blk.new _ _ _, ⟨Nat.le_refl _, by simp⟩, Own.nil _ _ _ _, rfl, by decide⟩, (Keep.refl w _).alloc _⟩

/-- What waited is handed back, in its own memory; the queue is empty. -/
def RetDrain (S : Nat → Prop) (w : World) (b : Nat) (l : List OpV) (en : Ending) (w' : World) : Prop :=
  ∃ a n c, en = .returned (.slice a n c) ∧ Own S w' 79 7 (.slice a n c) n (flatOp l) ∧ n = l.length ∧ IsQ (fun i => i = b) w' b [] ∧ ¬ rowS (.slice a n c) b ∧ Keep w w' (fun i => i = b)

set_option maxHeartbeats 400000 in
theorem q_drain (S : Nat → Prop) (b : Nat) (l : List OpV) (w : World) (h : IsQ S w b l) :
    Calls Tryz.prog 65 #[.pointer (some ⟨b, 0, none⟩)] w (RetDrain S w b l) := by
  obtain ⟨a, n, c, h1, h2, h3, hn, h4⟩ := h
  have hc := h1.cell 0
  have hf := h1.frozen 0
  simp at hc
  have hne := h3.rowNe h1 (by decide)
  have H1 := Lib.hid h1
  have H3 := Lib.hid h3
  have HN := Lib.hid hne
  clear h1 h3 hne
  have HL := Lib.hid hn; clear hn
  go_enter Tryz.func65, Tryz.ntmps65
  go_wp2_with fail
  go_ret
  exact ⟨_, _, _, rfl, H3.out.other (p := ⟨b, 0, none⟩) HN.out _, HL.out, ⟨none, 0, 0, H1.out.setCell 0 _, rfl, Own.nil _ _ _ _, rfl, by decide⟩, HN.out, (Keep.refl w (fun i => i = b)).setCell (p := ⟨b, 0, none⟩) (.inl rfl) _⟩

/-- The queue at b holds l now; S is where it may have been written. -/
def SetQ (S : Nat → Prop) (w : World) (b : Nat) (v : Value) (l : List OpV) (en : Ending) (w' : World) : Prop :=
  en = .returned v ∧ IsQ (fun i => S i ∨ New w w' i) w' b l ∧ Keep w w' S

set_option maxHeartbeats 400000 in
theorem q_add (S S2 : Nat → Prop) (b : Nat) (l m : List OpV) (v : Value) (w : World) (h : IsQ S w b l) (h2 : Rd S2 w v m.length (flatOp m)) (hok : m.any (fun o => !okOp o) = false) (hlen : l.length + m.length ≤ 10000) :
    Calls Tryz.prog 63 #[.pointer (some ⟨b, 0, none⟩), v] w (SetQ S w b (.int .i64 0) (l ++ m)) := by
  obtain ⟨a2, c2, rfl, g1, g2, g3, g4⟩ := id h2
  clear g1 g2 g3 g4
  have H2 := Lib.hid h2; clear h2
  have HB := Lib.hid hok; clear hok
  have H := Lib.hid h
  clear h
  go_enter Tryz.func63, Tryz.ntmps63
  go_wp2_with fail
  refine (contains_op _ m _ S2 H2.out).mono ?_
  rw [HB.out]
  rintro e w1 ⟨rfl, hk⟩
  have H2' := Lib.hid (H2.out.keep hk (fun _ _ f => f))
  obtain ⟨a, n, c, h1, hSb, h3, rfl, h4⟩ := H.out.keep hk (fun _ _ f => f)
  have hc := h1.cell 0
  have hf := h1.frozen 0
  have hlt := h1.lt
  simp at hc
  have HK := Lib.hid hk
  have H1 := Lib.hid h1
  have H3 := Lib.hid h3
  have HN := Lib.hid (h3.rowNe h1 (by decide))
  clear hk h1 h3
  go_wp2_with (at_builtin; refine wpList_app (P := Tryz.prog) slOp rfl _ _ rfl (S := rowS (.slice a l.length c)) (S2 := S2) (n := l.length) (xs := flatOp l) (m := m.length) (news := flatOp m) rfl rfl ?hown ?hx ?hl ?h1 ?h2 ?h3 ?_)
  case hown => exact H3.out.row
  case hx => exact H2'.out
  case hl => exact flatOp_len m
  case h1 => exact flatOp_one m
  case h2 => omega
  case h3 => unfold maxLen; omega
  rintro a' k c' w2 ⟨ho, hk', hk1, _⟩
  have hB := H1.out.keep hk1 HN.out
  have hsz := hk1.size
  have HK1 := Lib.hid hk1; clear hk1
  have HO := Lib.hid ho; clear ho
  have hc := hB.cell 0
  have hf := hB.frozen 0
  simp at hc
  have HB2 := Lib.hid hB; clear hB
  have HK' := Lib.hid hk'; clear hk'
  go_wp2_with fail
  go_ret
  have HO' := HO.out
  have hk' := HK'.out
  have hne := HO'.rowNe HB2.out (by decide)
  rw [← flatOp_app] at HO'
  have hs1 := HK.out.size
  refine ⟨rfl, ⟨a', k, c', HB2.out.setCell 0 _, .inl hSb, (HO'.other (p := ⟨b, 0, none⟩) hne _).mono ?_, by rw [List.length_append]; exact hk', by omega⟩, ?_⟩
  · intro i hi
    rcases hi with hi | hi
    · exact .inl (H3.out.rowIn i hi)
    · exact .inr ⟨by have := hi.1; omega, by simpa using hi.2⟩
  · exact ((HK.out.mono (T := S) (fun i f => f.elim)).trans (HK1.out.mono (T := S) (fun i hi => .inl (H3.out.rowIn i hi))) (fun i h => .inl h)).setCell (.inl hSb) _
end Go.Proofs.YtkiikblpgppmkaaGreatDoor

namespace Go.Proofs.YtkiikblpgppmkaaGreatDoor
open Go Go.RowKit
set_option linter.unusedVariables false
set_option linter.unusedSimpArgs false

/-- A queue at block b, in which l waits. -/
def qA (b : Nat) (l : List OpV) : Asr := ⟨fun w F => IsQ F w b l, fun h hk hd => h.keep hk hd, fun h hG => h.mono hG⟩
/-- A Res at block b, that holds l. -/
def resA (b : Nat) (l : List Int) : Asr := ⟨fun w F => IsRes F w b l, fun h hk hd => h.keep hk hd, fun h hG => h.mono hG⟩

theorem st_add {w0 w : World} {L : List Asr} (H : St w0 w L) (i : Nat) {b : Nat} {l : List OpV} (hi : L[i]? = some (qA b l)) (S2 : Nat → Prop) (m : List OpV) (v : Value) (h2 : Rd S2 w v m.length (flatOp m))
    (hok : ∀ o, o ∈ m → okOp o = true) (hlen : l.length + m.length ≤ 10000) :
    Calls Tryz.prog 63 #[.pointer (some ⟨b, 0, none⟩), v] w (fun e w' => e = .returned (.int .i64 0) ∧ St w0 w' (L.set i (qA b (l ++ m)))) := by
  obtain ⟨G, hA, _, hup, _⟩ := H.opens i hi
  refine (q_add G S2 b l m v w hA h2 (by rw [List.any_eq_false]; intro o ho; simp [hok o ho]) hlen).mono ?_
  rintro e w' ⟨rfl, hq, hk⟩
  exact ⟨rfl, hup w' (qA b (l ++ m)) hk hq⟩
theorem st_newq {w0 w : World} {L : List Asr} (H : St w0 w L) : Calls Tryz.prog 74 #[] w (fun e w' => ∃ b, e = .returned (.pointer (some ⟨b, 0, none⟩)) ∧ St w0 w' (L ++ [qA b []])) := by
  refine (q_new w).mono ?_
  rintro e w' ⟨b, rfl, hq, hk⟩
  exact ⟨b, rfl, St.add H hk (A := qA b []) hq⟩
theorem st_newres {w0 w : World} {L : List Asr} (H : St w0 w L) (v : Value) (l : List Int) (S : Nat → Prop) (h : Rd S w v l.length (i64s l)) : Calls Tryz.prog 73 #[v] w (fun e w' => ∃ b, e = .returned (.pointer (some ⟨b, 0, none⟩)) ∧ St w0 w' (L ++ [resA b (l.take 32)])) := by
  refine (res_new v l w S h).mono ?_
  rintro e w' ⟨b, rfl, hq, hk⟩
  exact ⟨b, rfl, St.add H hk (A := resA b (l.take 32)) hq⟩
/-- Behind comes ahead. -/
theorem St.comm {w0 w : World} {X Y : List Asr} (h : St w0 w (X ++ Y)) : St w0 w (Y ++ X) :=
  h.pick (fun i => if i < Y.length then i + X.length else i - Y.length) (fun i j hi hj e => by
    rw [List.length_append] at hi hj
    by_cases a1 : i < Y.length <;> by_cases a2 : j < Y.length <;> simp [a1, a2] at e <;> omega) (fun i A hi => by
    by_cases a1 : i < Y.length
    · simp only [a1, if_true]
      rw [List.getElem?_append_left a1] at hi
      rw [List.getElem?_append_right (by omega), Nat.add_sub_cancel]
      exact hi
    · simp only [a1, if_false]
      rw [List.getElem?_append_right (by omega)] at hi
      rw [List.getElem?_append_left (List.getElem?_eq_some_iff.1 hi).1]
      exact hi)

structure WoS where
  en : EnS
  rs : List Int
  qu : List OpV
  size : Nat
  top : Nat
structure WoB where
  eb : Nat
  rb : Nat
  qb : Nat
  e : EnB
def woCs (x : WoS) (p : WoB) : Array Value := #[.pointer (some ⟨p.eb, 0, none⟩), .pointer (some ⟨p.rb, 0, none⟩), .pointer (some ⟨p.qb, 0, none⟩), .bool false, .int .i64 (x.size : Nat), .int .i64 (x.top : Nat)]
def woL (b : Nat) (x : WoS) (p : WoB) : List Asr := blkA b (woCs x p) 124 :: (entL p.eb x.en p.e ++ [resA p.rb x.rs, qA p.qb x.qu])
def woA (b : Nat) (x : WoS) : Asr := exA fun p => starA (woL b x p)
def WoS.withE (x : WoS) (e : EnS) : WoS := ⟨e, x.rs, x.qu, x.size, x.top⟩
def WoS.withQ (x : WoS) (l : List OpV) : WoS := ⟨x.en, x.rs, l, x.size, x.top⟩
theorem St.woEnt {w0 w : World} {R : List Asr} {b : Nat} {x : WoS} {p : WoB} (H : St w0 w (woL b x p ++ R)) : St w0 w (entL p.eb x.en p.e ++ ([resA p.rb x.rs, qA p.qb x.qu] ++ R ++ [blkA b (woCs x p) 124])) := by
  have h : St w0 w (blkA b (woCs x p) 124 :: (entL p.eb x.en p.e ++ ([resA p.rb x.rs, qA p.qb x.qu] ++ R))) := by
    have e := List.append_assoc (entL p.eb x.en p.e) [resA p.rb x.rs, qA p.qb x.qu] R
    unfold woL at H
    rw [List.cons_append, e] at H
    exact H
  exact h.rot1
theorem St.woEnt' {w0 w : World} {R : List Asr} {b : Nat} {x : WoS} {p : WoB} {e : EnS} (H : St w0 w (entL p.eb e p.e ++ ([resA p.rb x.rs, qA p.qb x.qu] ++ R ++ [blkA b (woCs x p) 124]))) : St w0 w (woL b (x.withE e) p ++ R) := by
  have h := St.unrot1 H
  have e' := List.append_assoc (entL p.eb e p.e) [resA p.rb x.rs, qA p.qb x.qu] R
  unfold woL
  rw [List.cons_append]
  show St w0 w (blkA b (woCs x p) 124 :: ((entL p.eb e p.e ++ [resA p.rb x.rs, qA p.qb x.qu]) ++ R))
  rw [e']
  exact h
theorem St.woQ {w0 w : World} {R : List Asr} {b : Nat} {x : WoS} {p : WoB} (H : St w0 w (woL b x p ++ R)) : St w0 w (resA p.rb x.rs :: qA p.qb x.qu :: (R ++ [blkA b (woCs x p) 124] ++ entL p.eb x.en p.e)) :=
  H.woEnt.comm
theorem St.woQ' {w0 w : World} {R : List Asr} {b : Nat} {x : WoS} {p : WoB} {l : List OpV} (H : St w0 w (resA p.rb x.rs :: qA p.qb l :: (R ++ [blkA b (woCs x p) 124] ++ entL p.eb x.en p.e))) : St w0 w (woL b (x.withQ l) p ++ R) := by
  have h : St w0 w (entL p.eb x.en p.e ++ (resA p.rb x.rs :: qA p.qb l :: (R ++ [blkA b (woCs x p) 124]))) :=
    St.comm (X := resA p.rb x.rs :: qA p.qb l :: (R ++ [blkA b (woCs x p) 124])) H
  exact St.woEnt' (x := x.withQ l) (e := x.en) h
/-- The cells that each call reads. -/
structure WoCs (w : World) (b : Nat) (x : WoS) (p : WoB) : Prop where
  c0 : w.cell? ⟨b, 0, none⟩ = some (.pointer (some ⟨p.eb, 0, none⟩))
  c1 : w.cell? ⟨b, 1, none⟩ = some (.pointer (some ⟨p.rb, 0, none⟩))
  c2 : w.cell? ⟨b, 2, none⟩ = some (.pointer (some ⟨p.qb, 0, none⟩))
  c3 : w.cell? ⟨b, 3, none⟩ = some (.bool false)
  e0 : w.cell? ⟨p.eb, 0, none⟩ = some (.pointer (some ⟨p.e.ab, 0, none⟩))
  e1 : w.cell? ⟨p.eb, 1, none⟩ = some (.pointer (some ⟨p.e.rb, 0, none⟩))
theorem St.woC {w0 w : World} {R : List Asr} {b : Nat} {x : WoS} {p : WoB} (H : St w0 w (woL b x p ++ R)) : WoCs w b x p := by
  have hb := H.blk 0 rfl
  refine ⟨?_, ?_, ?_, ?_, H.woEnt.entC0, H.woEnt.entC1⟩ <;> (rw [hb.cell]; rfl)
theorem St.woAl {w0 w : World} {R : List Asr} {b : Nat} {x : WoS} {p : WoB} (H : St w0 w (woL b x p ++ R)) (ha : x.en.al.Ok) : RdAl w p.e.ab x.en.al := H.woEnt.entAl ha

set_option maxHeartbeats 1000000 in
theorem wo_free (b : Nat) (w : World) (hc : w.cell? ⟨b, 3, none⟩ = some (.bool false)) :
    Calls Tryz.prog 47 #[ptr b] w (fun e w' => e = .returned (.int .i64 0) ∧ w = w') := by
  unfold ptr at *
  go_enter Tryz.func47, Tryz.ntmps47
  go_wp2_with fail
  go_ret
  exact ⟨rfl, rfl⟩
/-- Whether a handle is of a thing: its fault. -/
def mayE (s : Int) : Int := if s = 0 then 4 else 0
set_option maxHeartbeats 1000000 in
theorem wo_may {w0 w : World} {R : List Asr} {b : Nat} {x : WoS} {p : WoB} (H : St w0 w (woL b x p ++ R)) (hx : x.en.al.Ok) (i g : Int) :
    Calls Tryz.prog 52 #[ptr b, hdV i g] w (Ret w (.int .i64 (mayE (x.en.al.st i g)))) := by
  have HB := Lib.hid (show St w0 (w.alloc (.cells #[.int .i64 i, .int .i64 g] 45)) (blkA w.heap.size #[.int .i64 i, .int .i64 g] 45 :: (woL b x p ++ R)) from H.box0 _ _)
  have HS := Lib.hid (fun w' (hk : Keep w w' Nope) => al_state p.e.ab x.en.al i g hx w' ((H.woAl hx).keep hk))
  obtain ⟨x0, x1, _, _⟩ := (Blk.new w #[.int .i64 i, .int .i64 g] 45).two
  have c0 := HB.out.rest.woC.c0
  have e0 := HB.out.rest.woC.e0
  have HC := Lib.hid (x.en.al.st_cases i g)
  obtain ⟨s, hs⟩ : ∃ s, x.en.al.st i g = s := ⟨_, rfl⟩
  rw [hs] at HS HC ⊢
  clear H hx hs
  unfold ptr hdV at *
  go_enter Tryz.func52, Tryz.ntmps52
  go_wp2_with fail
  refine wp_region_M (r := 10) (S := fun w' => w'.cell? ⟨b, 0, none⟩ = some (.pointer (some ⟨p.eb, 0, none⟩)) ∧ w'.cell? ⟨p.eb, 0, none⟩ = some (.pointer (some ⟨p.e.ab, 0, none⟩)) ∧ w'.cell? ⟨w.heap.size, 0, none⟩ = some (.int .i64 i) ∧ w'.cell? ⟨w.heap.size, 1, none⟩ = some (.int .i64 g)) (by kernel_rfl) ?_ (fun hHeld => ?_)
  · (try dsimp only); exact ⟨c0, e0, x0, x1⟩
  refine tkP 0 ?_; refine tkP 1 ?_; refine tkP 2 ?_; refine tkP 3 ?_; refine tkH 9 ?_; refine tkC 4 ?_
  intro K hK
  go_simp
  refine hK.out _ _ ?_ (fun hHeld => ?_)
  · (try dsimp only); exact ⟨c0, e0, x0, x1⟩
  clear hK K
  refine tkP 5 ?_; refine tkP 6 ?_; refine tkP 7 ?_; refine tkH 8 ?_; refine tkF 10 ?_
  intro K hK
  go_simp
  go_wp2_with ((go_at_call 62; refine (HS.out _ (show Keep w _ Nope from (by (repeat (first | exact Keep.refl _ _ | apply Keep.drew | apply Keep.drewN | apply Keep.alloc))))).mono ?_; rintro e w1 ⟨rfl, hk1⟩; have HK1 := Lib.hid ((show Keep w _ Nope from (by (repeat (first | exact Keep.refl _ _ | apply Keep.drew | apply Keep.drewN | apply Keep.alloc)))).trans hk1 (fun _ f => f.elim)); have HB1 := Lib.hid (HB.out.keep ((show Keep _ _ Nope from (by (repeat (first | exact Keep.refl _ _ | apply Keep.drew | apply Keep.drewN | apply Keep.alloc)))).trans hk1 (fun _ f => f.elim))); clear hk1))
  refine hK.out _ _ ?_
  clear hK K
  refine tkP 11 ?_
  refine wpAnyM_done (by kernel_rfl) ?_ _
  clear hHeld
  have c3 := HB1.out.rest.woC.c3
  rcases HC.out with rfl | rfl | rfl
  · go_wp2_with fail
    go_ret
    exact ⟨rfl, HK1.out⟩
  · go_wp2_with (go_at_call 47; refine (wo_free b _ c3).mono ?_; rintro e w2 ⟨rfl, rfl⟩)
    go_ret
    exact ⟨rfl, HK1.out⟩
  · go_wp2_with (go_at_call 47; refine (wo_free b _ c3).mono ?_; rintro e w2 ⟨rfl, rfl⟩)
    go_ret
    exact ⟨rfl, HK1.out⟩
end Go.Proofs.YtkiikblpgppmkaaGreatDoor

namespace Go.Proofs.YtkiikblpgppmkaaGreatDoor
open Go Go.RowKit
set_option linter.unusedVariables false
set_option linter.unusedSimpArgs false

theorem St.write2 {w0 w : World} {L : List Asr} {b : Nat} {x y : Value} {t : TypeId} (h : St w0 w (blkA b #[x, y] t :: L)) (u v : Value) : St w0 ((w.setCell ⟨b, 0, none⟩ u).setCell ⟨b, 1, none⟩ v) (blkA b #[u, v] t :: L) :=
  (h.write 0 rfl 0 u).write 0 rfl 1 v
def EnS.withA (e : EnS) (a : AlS) : EnS := ⟨a, e.sl⟩
set_option maxHeartbeats 2000000 in
theorem wo_create {w0 w : World} {R : List Asr} {b : Nat} {x : WoS} {p : WoB} (H : St w0 w (woL b x p ++ R)) (hT : Tab w0) (hx : x.en.al.Ok) (k : Nat) (hk : firstW x.en.al.free 0 = (k : Int)) :
    Calls Tryz.prog 14 #[ptr b] w (fun e w' => e = .returned (.tuple #[hdV k ((x.en.al.gen k + 1 : Nat) : Int), .int .i64 0]) ∧ St w0 w' (woL b (x.withE (x.en.withA (x.en.al.made k))) p ++ R)) := by
  have HB := Lib.hid (show St w0 (w.alloc (.cells #[.int .i64 0, .int .i64 0] 45)) (blkA w.heap.size #[.int .i64 0, .int .i64 0] 45 :: (woL b x p ++ R)) from H.box0 _ _)
  have HA := Lib.hid (fun (w1 : World) (h : St w0 w1 (blkA w.heap.size #[.int .i64 0, .int .i64 0] 45 :: (woL b x p ++ R))) => al_create (show St w0 w1 (entL p.eb x.en p.e ++ (([resA p.rb x.rs, qA p.qb x.qu] ++ (R ++ [blkA w.heap.size #[.int .i64 0, .int .i64 0] 45]) ++ [blkA b (woCs x p) 124]))) from (St.woEnt (R := R ++ [blkA w.heap.size #[.int .i64 0, .int .i64 0] 45]) (St.rot1 h))) 1 rfl hT hx k hk)
  have HU := Lib.hid (fun (w1 : World) (h : St w0 w1 (entL p.eb (x.en.withA (x.en.al.made k)) p.e ++ (([resA p.rb x.rs, qA p.qb x.qu] ++ (R ++ [blkA w.heap.size #[.int .i64 0, .int .i64 0] 45]) ++ [blkA b (woCs x p) 124])))) => St.unrot1 (St.woEnt' h))
  have c0 := HB.out.rest.woC.c0
  have c3 := HB.out.rest.woC.c3
  have e0 := HB.out.rest.woC.e0
  obtain ⟨g, hg⟩ : ∃ g : Int, ((x.en.al.gen k + 1 : Nat) : Int) = g := ⟨_, rfl⟩
  rw [hg] at HA ⊢
  obtain ⟨i, hi⟩ : ∃ i : Int, (k : Int) = i := ⟨_, rfl⟩
  rw [hi] at HA ⊢
  clear H hT hx hk hg hi
  unfold ptr hdV at *
  go_enter Tryz.func14, Tryz.ntmps14
  go_wp2_with (first
    | (go_at_call 47; refine (wo_free b _ c3).mono ?_; rintro e w2 ⟨rfl, rfl⟩)
    | (go_at_call 51; refine (HA.out _ HB.out).mono ?_; rintro en w3 ⟨rfl, h3⟩; have HB3 := Lib.hid (HU.out _ h3); clear h3 c0 c3 e0; obtain ⟨z0, z1, y0, y1⟩ := (HB3.out.blk 0 rfl).two))
  obtain ⟨q0, q1, _, _⟩ := ((HB3.out.blk 0 rfl).set2 (.int .i64 i) (.int .i64 g)).two
  have HF := Lib.hid ((HB3.out.write2 (.int .i64 i) (.int .i64 g)).rest)
  clear z0 z1 y0 y1
  refine bodyPost_ret (v := .tuple #[.agg #[.int .i64 i, .int .i64 g], .int .i64 0]) (by simp [results, Tryz.results14, go_sem, q0, q1]) rfl ⟨rfl, HF.out⟩
set_option maxHeartbeats 2000000 in
theorem wo_create_no {w0 w : World} {R : List Asr} {b : Nat} {x : WoS} {p : WoB} (H : St w0 w (woL b x p ++ R)) (hT : Tab w0) (hx : x.en.al.Ok) (hk : firstW x.en.al.free 0 = -1) :
    Calls Tryz.prog 14 #[ptr b] w (Ret w (.tuple #[hdV 0 0, .int .i64 x.en.al.noE])) := by
  have HB := Lib.hid (show St w0 (w.alloc (.cells #[.int .i64 0, .int .i64 0] 45)) (blkA w.heap.size #[.int .i64 0, .int .i64 0] 45 :: (woL b x p ++ R)) from H.box0 _ _)
  have HA := Lib.hid (al_create_no (HB.out.rest.woAl hx) (hT.st HB.out) hk)
  have c0 := HB.out.rest.woC.c0
  have c3 := HB.out.rest.woC.c3
  have e0 := HB.out.rest.woC.e0
  obtain ⟨g, hg⟩ : ∃ g : Int, x.en.al.noE = g := ⟨_, rfl⟩
  rw [hg] at HA ⊢
  clear H hT hx hk hg
  unfold ptr hdV at *
  go_enter Tryz.func14, Tryz.ntmps14
  go_wp2_with (first
    | (go_at_call 47; refine (wo_free b _ c3).mono ?_; rintro e w2 ⟨rfl, rfl⟩)
    | (go_at_call 51; refine HA.out.mono ?_; rintro en w3 ⟨rfl, hk3⟩; have HK3 := Lib.hid ((show Keep w _ Nope from (by (repeat (first | exact Keep.refl _ _ | apply Keep.drew | apply Keep.drewN | apply Keep.alloc)))).trans hk3 (fun _ f => f.elim)); have HB3 := Lib.hid ((Blk.new w #[.int .i64 0, .int .i64 0] 45).keep hk3 (fun f => f)); clear hk3 c0 c3 e0; obtain ⟨z0, z1, y0, y1⟩ := HB3.out.two))
  obtain ⟨q0, q1, _, _⟩ := (HB3.out.set2 (.int .i64 0) (.int .i64 0)).two
  have HF := Lib.hid ((HK3.out.setCell (p := ⟨w.heap.size, 0, none⟩) (.inr (Nat.le_refl _)) (.int .i64 0)).setCell (p := ⟨w.heap.size, 1, none⟩) (.inr (Nat.le_refl _)) (.int .i64 0))
  clear z0 z1 y0 y1
  refine bodyPost_ret (v := .tuple #[.agg #[.int .i64 0, .int .i64 0], .int .i64 g]) (by simp [results, Tryz.results14, go_sem, q0, q1]) rfl ⟨rfl, HF.out⟩
set_option maxHeartbeats 2000000 in
theorem wo_delete {w0 w : World} {R : List Asr} {b : Nat} {x : WoS} {p : WoB} (H : St w0 w (woL b x p ++ R)) (hx : x.en.Ok 90000) (hr : x.en.al.ret ≤ 1000000) (k : Nat) (hs : x.en.al.st k (x.en.al.gen k : Nat) = 1) :
    Calls Tryz.prog 18 #[ptr b, hdV k (x.en.al.gen k : Nat)] w (fun e w' => e = .returned (.tuple #[.int .i64 ((ofL x.en.sl k).length : Nat), .int .i64 0]) ∧ St w0 w' (woL b (x.withE (x.en.del k)) p ++ R)) := by
  have HB := Lib.hid (show St w0 (w.alloc (.cells #[.int .i64 k, .int .i64 (x.en.al.gen k : Nat)] 45)) (blkA w.heap.size #[.int .i64 k, .int .i64 (x.en.al.gen k : Nat)] 45 :: (woL b x p ++ R)) from H.box0 _ _)
  have HM := Lib.hid (wo_may HB.out.rest hx.al k (x.en.al.gen k : Nat))
  rw [hs] at HM
  rw [show mayE 1 = 0 from rfl] at HM
  have HD := Lib.hid (fun (w1 : World) (h : St w0 w1 (blkA w.heap.size #[.int .i64 k, .int .i64 (x.en.al.gen k : Nat)] 45 :: (woL b x p ++ R))) => ent_delete (St.woEnt (St.rot1 h)) hx hr k hs)
  have HU := Lib.hid (fun (w1 : World) (h : St w0 w1 (entL p.eb (x.en.del k) p.e ++ (([resA p.rb x.rs, qA p.qb x.qu] ++ (R ++ [blkA w.heap.size #[.int .i64 k, .int .i64 (x.en.al.gen k : Nat)] 45]) ++ [blkA b (woCs x p) 124])))) => (St.unrot1 (St.woEnt' h)).rest)
  obtain ⟨g, hg⟩ : ∃ g : Int, ((x.en.al.gen k : Nat) : Int) = g := ⟨_, rfl⟩
  rw [hg] at HB HM HD HU ⊢
  obtain ⟨n, hn⟩ : ∃ n : Int, (((ofL x.en.sl k).length : Nat) : Int) = n := ⟨_, rfl⟩
  rw [hn] at HD ⊢
  obtain ⟨y, hy⟩ : ∃ y, x.en.del k = y := ⟨_, rfl⟩
  rw [hy] at HD HU ⊢
  obtain ⟨i, hi⟩ : ∃ i : Int, (k : Int) = i := ⟨_, rfl⟩
  rw [hi] at HB HM HD HU ⊢
  clear H hx hr hs hg hn hy hi
  unfold ptr hdV at *
  go_enter Tryz.func18, Tryz.ntmps18
  go_wp2_with (go_at_call 52; refine HM.out.mono ?_; rintro e w1 ⟨rfl, hk1⟩; have HB1 := Lib.hid (HB.out.keep hk1); clear hk1 HM HB)
  have c0 := HB1.out.rest.woC.c0
  obtain ⟨x0, x1, _, _⟩ := (HB1.out.blk 0 rfl).two
  refine wp_region_M (r := 6) (S := fun w' => w'.cell? ⟨b, 0, none⟩ = some (.pointer (some ⟨p.eb, 0, none⟩)) ∧ w'.cell? ⟨w.heap.size, 0, none⟩ = some (.int .i64 i) ∧ w'.cell? ⟨w.heap.size, 1, none⟩ = some (.int .i64 g)) (by kernel_rfl) ?_ (fun hHeld => ?_)
  · (try dsimp only); exact ⟨c0, x0, x1⟩
  refine tkP 0 ?_; refine tkP 1 ?_; refine tkP 2 ?_; refine tkP 3 ?_; refine tkH 4 ?_; refine tkH 5 ?_; refine tkF 6 ?_
  intro K hK
  go_simp
  go_wp2_with ((go_at_call 56; refine (HD.out _ HB1.out.drew).mono ?_; rintro en w2 ⟨rfl, h2⟩; have HB2 := Lib.hid (HU.out _ h2); clear h2 HB1))
  refine hK.out _ _ ?_
  clear hK K
  refine tkP 7 ?_; refine tkP 8 ?_; refine tkP 9 ?_; refine tkP 10 ?_
  refine wpAnyM_done (by kernel_rfl) ?_ _
  clear hHeld
  go_wp2_with fail
  go_ret2
  exact ⟨rfl, HB2.out⟩
set_option maxHeartbeats 1000000 in
theorem wo_get_gone {w0 w : World} {R : List Asr} {b : Nat} {x : WoS} {p : WoB} (H : St w0 w (woL b x p ++ R)) (hx : x.en.al.Ok) (i g c : Int) (hs : x.en.al.st i g = 0) :
    Calls Tryz.prog 31 #[ptr b, hdV i g, .int .i64 c] w (Ret w (.tuple #[zV, .int .i64 4])) := by
  have hk2 := (show Keep w ((w.alloc (.cells #[.int .i64 i, .int .i64 g] 45)).alloc (.cells #[.int .i64 0, .int .i64 0, .int .i64 0] 34)) Nope from ((Keep.refl w Nope).alloc _).alloc _)
  have HB := Lib.hid (H.keep hk2)
  have hb2 := ((Blk.new w #[.int .i64 i, .int .i64 g] 45).keep ((Keep.refl _ Nope).alloc (.cells #[.int .i64 0, .int .i64 0, .int .i64 0] 34)) (fun f => f))
  obtain ⟨x0, x1, _, _⟩ := hb2.two
  have c0 := HB.out.woC.c0
  have e0 := HB.out.woC.e0
  have HK2 := Lib.hid hk2
  have HG := Lib.hid (fun (w1 : World) (hk : Keep w w1 Nope) => ent_get_gone p.eb p.e.ab x.en.al i g c hx w1 (H.keep hk).woC.e0 ((H.keep hk).woAl hx) hs)
  clear H hx hs hk2 hb2
  unfold ptr hdV zV at *
  go_enter Tryz.func31, Tryz.ntmps31
  go_wp2_with fail
  refine wp_region_M (r := 7) (S := fun w' => w'.cell? ⟨b, 0, none⟩ = some (.pointer (some ⟨p.eb, 0, none⟩)) ∧ w'.cell? ⟨w.heap.size, 0, none⟩ = some (.int .i64 i) ∧ w'.cell? ⟨w.heap.size, 1, none⟩ = some (.int .i64 g)) (by kernel_rfl) ?_ (fun hHeld => ?_)
  · (try dsimp only); exact ⟨c0, x0, x1⟩
  refine tkP 0 ?_; refine tkP 1 ?_; refine tkP 2 ?_; refine tkP 3 ?_; refine tkH 4 ?_; refine tkH 5 ?_; refine tkP 6 ?_; refine tkF 7 ?_
  intro K hK
  go_simp
  go_wp2_with ((go_at_call 71; refine (HG.out _ (show Keep w _ Nope from (by (repeat (first | exact Keep.refl _ _ | apply Keep.drew | apply Keep.drewN | apply Keep.alloc))))).mono ?_; rintro en w3 ⟨rfl, hk3⟩; have HK3 := Lib.hid ((show Keep w _ Nope from (by (repeat (first | exact Keep.refl _ _ | apply Keep.drew | apply Keep.drewN | apply Keep.alloc)))).trans hk3 (fun _ f => f.elim)); have HB3 := Lib.hid ((Blk.new1 w (.cells #[.int .i64 i, .int .i64 g] 45) #[.int .i64 0, .int .i64 0, .int .i64 0] 34).keep ((show Keep _ _ Nope from (by (repeat (first | exact Keep.refl _ _ | apply Keep.drew | apply Keep.drewN | apply Keep.alloc)))).trans hk3 (fun _ f => f.elim)) (fun f => f)); clear hk3; obtain ⟨z0, z1, z2, y0, y1, y2⟩ := HB3.out.three))
  refine hK.out _ _ ?_
  clear hK K
  refine tkP 8 ?_; refine tkP 9 ?_; refine tkF 10 ?_
  intro K hK
  go_simp
  refine hK.out _ _ ?_
  clear hK K
  refine tkP 11 ?_
  refine wpAnyM_done (by kernel_rfl) ?_ _
  clear hHeld c0 e0 x0 x1
  obtain ⟨q0, q1, q2, _, _, _⟩ := (HB3.out.set3 (.int .i64 0) (.int .i64 0) (.int .i64 0)).three
  have HF := Lib.hid (HK3.out.set3 (b := w.heap.size + 1) (by omega) (.int .i64 0) (.int .i64 0) (.int .i64 0))
  clear z0 z1 z2 y0 y1 y2
  go_wp2_with fail
  refine bodyPost_ret (v := .tuple #[.agg #[.int .i64 0, .int .i64 0, .int .i64 0], .int .i64 4]) (by simp [results, Tryz.results31, go_sem, q0, q1, q2]) rfl ⟨rfl, HF.out⟩
end Go.Proofs.YtkiikblpgppmkaaGreatDoor
