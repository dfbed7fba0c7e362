/-
  append(s, make([]T, k)...), of a slice of the call's own; The package sparse: Get; The package sparse: room; The package sparse: Put; The package sparse: Take, New; Where a slot keeps its values: the claim, whatever the variant; the variant that keeps none.
-/
import Derived.Test.YtkiikblpgppmkaaGreatDoorTlM02
import Derived.Lib.AppendZerosOnto
import Derived.Test.YtkiikblpgppmkaaGreatDoorTlM07
import Derived.Test.YtkiikblpgppmkaaGreatDoorTlM12
import Derived.Deep.CutBlock
import Derived.Test.YtkiikblpgppmkaaGreatDoorTlM13
import Derived.Test.YtkiikblpgppmkaaGreatDoorTlM08
import Derived.Test.YtkiikblpgppmkaaGreatDoorTlM04
import Derived.Test.YtkiikblpgppmkaaGreatDoorTlM14
namespace Go.Proofs.YtkiikblpgppmkaaGreatDoor
open Go Go.RowKit
set_option linter.unusedVariables false
set_option linter.unusedSimpArgs false

theorem run_appz {P : Program} {t tn e : TypeId} {size bytes : Nat} (hT : SlTy P t e size bytes) (htn : P.underlying tn = some (.int .i64)) (ty : TypeId) {S : Nat → Prop} {w : World} {v : Value} {n k : Nat} {xs zs : List Value}
    (hown : Own S w e size v n xs) (hk : 0 < k) (hzz : ∀ i z, P.info? e = some i → i.zero = some z → Builtin.zeroCells z.cells k = zs.toArray) (h1 : ∀ u ∈ zs, u.oneCell' = true) (hbytes : (n + k) * bytes ≤ 140737488355328) (hlen : n + k ≤ maxLen) :
    ∃ v' w', (Builtin.append_ #[t, tn] ty #[v, .int .i64 (k : Nat)]).run P w = .ok v' w' ∧ Own (fun i => S i ∨ w.heap.size ≤ i) w' e size v' (n + k) (xs ++ zs) ∧ Keep w w' S ∧ v' ≠ .slice none 0 0 := by
  obtain ⟨ht, ⟨i, z, hi, hz, hsize, hby, hzs⟩, hsz⟩ := hT
  subst hsize
  subst hby
  have hzc := hzz i z hi hz
  have hsmall : n + k ≤ 9223372036854775807 := by simp only [maxLen] at hlen; omega
  have hxl := hown.len
  have hl : zs.length = k * i.size := by
    have h := congrArg Array.size hzc
    rw [size_zeroCells, hzs] at h
    simpa using h.symm
  have hlen' : (xs ++ zs).length = (n + k) * i.size := by rw [List.length_append, hxl, hl, Nat.add_mul]
  have hkb : k * i.bytes ≤ 281474976710656 := Nat.le_trans (Nat.mul_le_mul_right _ (Nat.le_add_left k n)) (by omega)
  have grown : ∀ (old : Nat), old < n + k →
      Own (fun i => S i ∨ w.heap.size ≤ i) (w.drew.alloc (.cells (xs.toArray ++ Builtin.zeroCells z.cells k ++ Builtin.zeroCells z.cells (grownCap w (n + k) old e - (n + k))) e)) e i.size
        (.slice (some ⟨w.heap.size, 0, none⟩) (n + k) (grownCap w (n + k) old e)) (n + k) (xs ++ zs) := by
    intro old ho
    have hge := grownCap_ge w (n + k) old e
    have hcm' : grownCap w (n + k) old e ≤ maxLen := grownCap_le_maxLen w (n + k) old e hlen
    rw [hzc]
    refine ⟨⟨hlen', .inr ⟨w.heap.size, _, _, rfl, Nat.zero_le _, heap_alloc_new w.drew _, hge, hcm', ?_, ?_⟩⟩, fun g hg => ?_⟩
    · simp only [Array.size_append, List.size_toArray, size_zeroCells, hzs, hxl, hl, ← Nat.add_mul]
      congr 1
      omega
    · simp only [Array.toList_append, List.append_assoc]
      rw [← List.append_assoc, ← hlen']
      exact List.take_left
    · simp [Value.ownBlock] at hg
      exact .inr (by omega)
  rcases hown.view with ⟨rfl, rfl, rfl⟩ | ⟨g, cap, cur, rfl, hS, hb, r1, r2, r3, r4⟩
  · have hr := Lib.run_append_nil_zeros (P := P) w t tn ty e i z .i64 .i64 ht htn hi hz k hk hsz (by omega) hkb
    have hgr := grown 0 (by omega)
    simp only [Nat.zero_add, List.nil_append] at hgr ⊢
    refine ⟨_, _, hr, by simpa using hgr, (Keep.refl w S).drew.alloc _, by simp⟩
  · by_cases hroom : n + k ≤ cap
    · have hfit : n * i.size + zs.length ≤ cur.size := by rw [hl, r3, ← Nat.add_mul]; exact Nat.mul_le_mul_right _ hroom
      have hst := run_storeCells_at P g (n * i.size) e zs 0 cur w hb (by simpa using hfit) h1
      simp only [Nat.add_zero] at hst
      have hw : IntKind.i64.wrap (k : Int) = k := by rw [IntKind.wrap_i64]; omega
      have hneg : ¬ ((k : Int) < 0) := by omega
      have hns : ¬ (k * i.size = 0) := Nat.mul_ne_zero (by omega) (by omega)
      have h48i : ¬ (281474976710656 < (k : Int) * (i.bytes : Int)) := by
        rw [← Int.natCast_mul]
        omega
      have hr : (Builtin.append_ #[t, tn] ty #[.slice (some ⟨g, 0, none⟩) n cap, .int .i64 (k : Nat)]).run P w = .ok (.slice (some ⟨g, 0, none⟩) (n + k) cap) (w.setRow g (cur.toList.take (n * i.size) ++ zs ++ cur.toList.drop (n * i.size + zs.length)).toArray) := by
        simp [Builtin.append_, run_underlying ht, run_underlying htn, sizeOf, typeInfo, zeroValue, hi, hz, asInt, asIntOf, hw, hneg, hns, h48i, hroom, Addr.add_lit, hzc, hst]
      refine ⟨_, _, hr, ⟨⟨hlen', .inr ⟨g, cap, _, rfl, Nat.zero_le _, setRow_heap w g cur _ e _ hb, hroom, r2, ?_, ?_⟩⟩, fun g' hg' => ?_⟩, (Keep.refl w S).setRow (.inl hS) _, by simp⟩
      · simp only [List.size_toArray, List.length_append, List.length_take, List.length_drop, Array.length_toList]
        omega
      · rw [r4, ← hlen']
        exact List.take_left
      · simp [Value.ownBlock] at hg'
        subst hg'
        exact .inl hS
    · have holds : ∀ j u, xs[j]? = some u → w.cell? ((⟨g, 0, none⟩ : Addr).add j) = some u := hown.1.cells (g := g) rfl
      have hold := run_firstCells_some (P := P) w.drew i.size n ⟨g, 0, none⟩ n cap xs hxl (fun j u hu => holds j u hu)
      have hr := Lib.run_append_grow_zeros (P := P) w t tn ty e i z .i64 .i64 ht htn hi hz (some ⟨g, 0, none⟩) n cap xs hold k hk hsz (by omega) (by omega) hkb (growslice_fits (by omega) hbytes)
      exact ⟨_, _, hr, grown cap (by omega), (Keep.refl w S).drew.alloc _, by simp⟩
theorem step_appz {P : Program} {t tn e : TypeId} {size bytes : Nat} (hT : SlTy P t e size bytes) (htn : P.underlying tn = some (.int .i64)) {o : Oper} {a : Act} {w : World} {K : Act → World → Prop} {Q : Exit → Act → World → Prop} (s x : Operand)
    (ho : o.op = .call { callee := .builtin .append, args := #[s, x], argTypes := #[t, tn] })
    {S : Nat → Prop} {v : Value} {n k : Nat} {xs zs : List Value} (hs : a.eval s = v) (hy : a.eval x = .int .i64 (k : Nat))
    (hown : Own S w e size v n xs) (hk : 0 < k) (hzz : ∀ i z, P.info? e = some i → i.zero = some z → Builtin.zeroCells z.cells k = zs.toArray) (h1 : ∀ u ∈ zs, u.oneCell' = true) (hbytes : (n + k) * bytes ≤ 140737488355328) (hlen : n + k ≤ maxLen)
    (h : ∀ a' j c' w', App S w w' e size v (.slice a' j c') n k j xs zs → K (a.put o.dst (.slice a' j c')) w') : Oper.wp P o a w K Q := by
  obtain ⟨v', w', hr, h2, h3, h4⟩ := run_appz hT htn o.type hown hk hzz h1 hbytes hlen
  obtain ⟨a', c', rfl⟩ := h2.form
  unfold Oper.wp execOp
  simp only [ho, resolve, invoke, builtin, Sem.run_bind, Sem.run_pure, Result.andThen_ok, List.map_toArray, List.map_cons, List.map_nil, hs, hy, hr]
  exact h a' _ c' w' ⟨h2.tight.mono (fun i hi => hi.1.elim .inl (fun h => .inr ⟨h, hi.2⟩)), rfl, h3, ⟨fun h => absurd h h4, fun h => absurd h.2 (by omega)⟩⟩
end Go.Proofs.YtkiikblpgppmkaaGreatDoor

namespace Go.Proofs.YtkiikblpgppmkaaGreatDoor
open Go Go.RowKit
set_option linter.unusedVariables false
set_option linter.unusedSimpArgs false

def VV.cells (v : VV) : List Value := [.int .i64 v.k, .int .i64 v.a, .int .i64 v.b]
def flatVV (l : List VV) : List Value := l.flatMap VV.cells
theorem flatVV_app (a b : List VV) : flatVV (a ++ b) = flatVV a ++ flatVV b := by simp [flatVV]
theorem flatVV_one (l : List VV) : ∀ u ∈ flatVV l, u.oneCell' = true := by
  intro u hu
  simp only [flatVV, List.mem_flatMap] at hu
  obtain ⟨x, _, ho⟩ := hu
  simp only [VV.cells, List.mem_cons, List.not_mem_nil, or_false] at ho
  rcases ho with rfl | rfl | rfl <;> rfl
theorem slVa : SlTy Tryz.prog 47 34 3 24 := SlTy.mk' (.agg #[.int .i64 0, .int .i64 0, .int .i64 0]) Tryz.underlying47 (by kernel_rfl) rfl (by decide)
theorem Keep.setC3 {a w : World} {b : Nat} (h : Keep a w Nope) (hb : a.heap.size ≤ b) (u v s : Value) : Keep a (((w.setCell ⟨b, 0, none⟩ u).setCell ⟨b, 1, none⟩ v).setCell ⟨b, 2, none⟩ s) Nope :=
  ((h.setCell (p := ⟨b, 0, none⟩) (.inr hb) u).setCell (p := ⟨b, 1, none⟩) (.inr hb) v).setCell (p := ⟨b, 2, none⟩) (.inr hb) s
structure SpaB where
  sb : Nat
  a : Option Addr
  c : Nat
/-- Values at their places: those that are there. -/
structure SpaOk (l : List VV) (m : Nat) (f : Nat → VV) : Prop where
  get : ∀ k, m.testBit k = true → l[k]? = some (f k)
  len : l.length ≤ 128
def spaL (b : Nat) (l : List VV) (m : Nat) (q : SpaB) : List Asr := [blkA b #[ptr q.sb, .slice q.a l.length q.c] 435, slA 34 3 (.slice q.a l.length q.c) l.length (flatVV l), hibA q.sb m]
set_option maxRecDepth 100000 in
set_option maxHeartbeats 1000000 in
theorem spa_get {w0 w : World} {R : List Asr} {b m : Nat} {l : List VV} {q : SpaB} {f : Nat → VV} (H : St w0 w (spaL b l m q ++ R)) (hD : SpaOk l m f) (hm : m < 2 ^ 64) (k : Nat) (hk : k < 64) :
    Calls Tryz.prog 387 #[ptr b, .int .i64 (k : Nat)] w (Ret w (.tuple #[(hadV m f k).val, .bool (m.testBit k)])) := by
  obtain ⟨sb, a, c⟩ := q
  have hk1 := (show Keep w (w.alloc (.cells #[.int .i64 0, .int .i64 0, .int .i64 0] 34)) Nope from (Keep.refl w Nope).alloc _)
  have H1 := H.box0 #[.int .i64 0, .int .i64 0, .int .i64 0] 34
  have c0 : (w.alloc (.cells #[.int .i64 0, .int .i64 0, .int .i64 0] 34)).cell? ⟨b, 0, none⟩ = some (.pointer (some ⟨sb, 0, none⟩)) := by rw [(H1.blk 1 rfl).cell]; rfl
  have HH := Lib.hid (hib_has sb m k hk _ (H1.hibRd 3 rfl hm))
  have HK1 := Lib.hid hk1
  have HB := Lib.hid H1
  have HD := Lib.hid hD
  obtain ⟨n, hn⟩ : ∃ n, l.length = n := ⟨_, rfl⟩
  have HN := Lib.hid hn
  clear H H1 hD hn hk1 hm
  unfold ptr at *
  go_enter Tryz.func387, Tryz.ntmps387
  cases hb : m.testBit k with
  | false =>
    rw [hb] at HH
    unfold hadV
    rw [hb]
    go_wp2_with (go_at_call 120; refine HH.out.mono ?_; rintro e w1 ⟨rfl, hk2⟩; have HB1 := Lib.hid (HB.out.keep hk2); have HK2 := Lib.hid (HK1.out.trans hk2 (fun _ f => f.elim)); clear hk2 HH; obtain ⟨z0, z1, z2, y0, y1, y2⟩ := (HB1.out.blk 0 rfl).three)
    obtain ⟨q0, q1, q2, _, _, _⟩ := ((HB1.out.blk 0 rfl).set3 (.int .i64 0) (.int .i64 0) (.int .i64 0)).three
    have HF := Lib.hid (HK2.out.setC3 (b := w.heap.size) (Nat.le_refl _) (.int .i64 0) (.int .i64 0) (.int .i64 0))
    refine bodyPost_ret (v := .tuple #[.agg #[.int .i64 0, .int .i64 0, .int .i64 0], .bool false]) (by simp [results, Tryz.results387, go_sem, q0, q1, q2]) rfl ⟨rfl, HF.out⟩
  | true =>
    rw [hb] at HH
    unfold hadV
    rw [hb, if_pos rfl]
    have hp := HD.out.get k hb
    have hkn : k < n := by have := (List.getElem?_eq_some_iff.1 hp).1; rw [HN.out] at this; exact this
    obtain ⟨⟨vk, va, vb⟩, hv⟩ : ∃ v, f k = v := ⟨_, rfl⟩
    rw [hv] at hp ⊢
    have e0 : decide (n ≤ k) = false := decide_eq_false (by omega)
    have HP := Lib.hid hp
    clear hp hv
    unfold VV.val
    go_upto_region 3 with (go_at_call 120; refine HH.out.mono ?_; rintro e w1 ⟨rfl, hk2⟩; have HB1 := Lib.hid (HB.out.keep hk2); have HK2 := Lib.hid (HK1.out.trans hk2 (fun _ f => f.elim)); clear hk2 HH)
    obtain ⟨G, _, hrd, _⟩ := HB1.out.rd 2 rfl
    obtain ⟨g, o, rfl, _, hc⟩ := Rd.elem (cells := VV.cells) (size := 3) hrd (fun _ => rfl) (by decide) HP.out
    have x1 : w1.cell? ⟨g, o + k * 3, none⟩ = some (.int .i64 vk) := hc 0 (by decide)
    have x2 : w1.cell? ⟨g, o + k * 3 + 1, none⟩ = some (.int .i64 va) := hc 1 (by decide)
    have x3 : w1.cell? ⟨g, o + k * 3 + 2, none⟩ = some (.int .i64 vb) := hc 2 (by decide)
    have c1 : w1.cell? ⟨b, 1, none⟩ = some (.slice (some ⟨g, o, none⟩) n c) := by rw [← HN.out, (HB1.out.blk 1 rfl).cell]; rfl
    obtain ⟨z0, z1, z2, y0, y1, y2⟩ := (HB1.out.blk 0 rfl).three
    clear hrd hc c0
    go_wp2_with fail
    obtain ⟨q0, q1, q2, _, _, _⟩ := ((HB1.out.blk 0 rfl).set3 (.int .i64 vk) (.int .i64 va) (.int .i64 vb)).three
    have HF := Lib.hid (HK2.out.setC3 (b := w.heap.size) (Nat.le_refl _) (.int .i64 vk) (.int .i64 va) (.int .i64 vb))
    refine bodyPost_ret (v := .tuple #[.agg #[.int .i64 vk, .int .i64 va, .int .i64 vb], .bool true]) (by simp [results, Tryz.results387, go_sem, q0, q1, q2]) rfl ⟨rfl, HF.out⟩
end Go.Proofs.YtkiikblpgppmkaaGreatDoor

namespace Go.Proofs.YtkiikblpgppmkaaGreatDoor
open Go Go.RowKit
set_option linter.unusedVariables false
set_option linter.unusedSimpArgs false

def RetRoom (w0 : World) (R : List Asr) (b m k : Nat) (l : List VV) (sb : Nat) (e : Ending) (w' : World) : Prop := ∃ (v : Value) (zs : List VV) (a : Option Addr) (c : Nat), e = .returned v ∧ k < (l ++ zs).length ∧ (l ++ zs).length ≤ 128 ∧ St w0 w' (spaL b (l ++ zs) m ⟨sb, a, c⟩ ++ R)
theorem flatVV_zero : ∀ k, flatVV (List.replicate k zVV) = List.replicate (k * 3) (.int .i64 0)
  | 0 => rfl
  | k + 1 => by
    rw [List.replicate_succ, show (k + 1) * 3 = k * 3 + 1 + 1 + 1 by omega, List.replicate_succ, List.replicate_succ, List.replicate_succ, ← flatVV_zero k]
    rfl
theorem zeroV (k : Nat) : Builtin.zeroCells #[.int .i64 0, .int .i64 0, .int .i64 0] k = (flatVV (List.replicate k zVV)).toArray := by
  rw [flatVV_zero]
  apply Array.ext
  · simp [size_zeroCells]
  · intro i h1 h2
    simp only [Builtin.zeroCells, Array.getElem_map, Array.getElem_range, List.getElem_toArray, List.getElem_replicate]
    have h3 : i % 3 = 0 ∨ i % 3 = 1 ∨ i % 3 = 2 := by omega
    show (#[(Value.int .i64 0), .int .i64 0, .int .i64 0])[i % 3]! = _
    rcases h3 with h | h | h <;> rw [h] <;> rfl
theorem zeroVI (k : Nat) : ∀ i z, Tryz.prog.info? 34 = some i → i.zero = some z → Builtin.zeroCells z.cells k = (flatVV (List.replicate k zVV)).toArray := by
  intro i z hi hz
  have h : (Tryz.prog.info? 34).bind (·.zero) = some (.agg #[.int .i64 0, .int .i64 0, .int .i64 0]) := by kernel_rfl
  rw [hi] at h
  change i.zero = some _ at h
  rw [hz] at h
  have h2 := Option.some.inj h
  subst h2
  exact zeroV k
set_option maxRecDepth 100000 in
set_option maxHeartbeats 2000000 in
theorem spa_room {w0 w : World} {R : List Asr} {b m : Nat} {l : List VV} {q : SpaB} (H : St w0 w (spaL b l m q ++ R)) (hl : l.length ≤ 128) (k : Nat) (hk : k < 64) :
    Calls Tryz.prog 390 #[ptr b, .int .i64 (k : Nat)] w (RetRoom w0 R b m k l q.sb) := by
  obtain ⟨sb, a, c⟩ := q
  obtain ⟨n, hn⟩ : ∃ n, l.length = n := ⟨_, rfl⟩
  have c1 : w.cell? ⟨b, 1, none⟩ = some (.slice a n c) := by rw [← hn, (H.blk 0 rfl).cell]; rfl
  rw [hn] at hl
  have HN := Lib.hid hn
  have HB := Lib.hid H
  obtain ⟨p0, hp0⟩ : ∃ p, (if n = 0 then 1 else n) = p := ⟨_, rfl⟩
  have hp1 : 1 ≤ p0 ∧ n ≤ p0 ∧ p0 ≤ 128 := by rw [← hp0]; split <;> omega
  have hmax : (if (n : Int) < 1 then (1 : Int) else (n : Int)) = (p0 : Nat) := by rw [← hp0]; split <;> split <;> omega
  clear H hn
  unfold ptr at *
  go_enter Tryz.func390, Tryz.ntmps390
  go_upto_block 0 with fail

  clear hmax hp0
  go_cut [4] (fun v4 wc => ∃ p : Nat, v4 = .int .i64 p ∧ n ≤ p ∧ k < p ∧ p ≤ 128 ∧ wc = w)
  case first =>
    go_wp2_with fail
    go_loopg [4] (200 - p0) (fun g v4 wr => ∃ p : Nat, g + p = 200 ∧ v4 = .int .i64 p ∧ 1 ≤ p ∧ n ≤ p ∧ p ≤ 128 ∧ wr = w)
    case atStart => exact ⟨p0, by omega, rfl, hp1.1, hp1.2.1, hp1.2.2, rfl⟩
    case round =>
      obtain ⟨p, hg, rfl, h1, h2, h3, rfl⟩ := hrel
      by_cases hlt : p ≤ k
      · have e1 : decide ((p : Int) ≤ (k : Int)) = true := decide_eq_true (by omega)
        have e2 : decide (p ≤ k) = true := decide_eq_true (by omega)
        have HG := Lib.hid hg
        clear hg
        go_wp2_with fail
        go_roundg (200 - p * 2)
        case measure => have := HG.out; omega
        case rel => exact ⟨p * 2, by omega, by go_num, by omega, by omega, by omega, rfl⟩
      · have e1 : decide ((p : Int) ≤ (k : Int)) = false := decide_eq_false (by omega)
        have e2 : decide (p ≤ k) = false := decide_eq_false (by omega)
        go_wp2_with fail
        go_meet
        case rel => exact ⟨p, rfl, by omega, by omega, by omega, rfl⟩
  case rest =>
    obtain ⟨p, rfl, hnp, hkp, hp128, rfl⟩ := hcut
    by_cases hgt : n < p
    · have e1 : decide ((p : Int) > (n : Int)) = true := decide_eq_true (by omega)
      have e2 : decide (n < p) = true := decide_eq_true (by omega)
      obtain ⟨k2, hk2⟩ : ∃ k2, n + k2 = p := ⟨p - n, by omega⟩
      have hsub : (p : Int) - (n : Int) = (k2 : Int) := by omega
      have HWr := Lib.hid (show IntKind.i64.wrap (k2 : Int) = (k2 : Int) by rw [IntKind.wrap_i64]; omega)
      obtain ⟨G, hown, _, hup, _⟩ := HB.out.drew.opens 1 rfl
      have HOwn := Lib.hid (show Own G wc.drew 34 3 (.slice a n c) n (flatVV l) from HN.out ▸ hown)
      have HUP := Lib.hid hup
      clear hown hup
      go_upto_region 4 with fail
      refine wp_region_M (r := 13) (S := fun w' => w'.cell? ⟨b, 1, none⟩ = some (.slice a n c)) (by kernel_rfl) ?_ (fun hHeld => ?_)
      · (try dsimp only); first | exact c1' | exact c1
      refine tkP 0 ?_; refine tkP 1 ?_; refine tkP 2 ?_; refine tkP 3 ?_; refine tkH 4 ?_; refine tkP 5 ?_; refine tkP 6 ?_; refine tkP 7 ?_; refine tkP 8 ?_; refine tkH 9 ?_; refine tkP 10 ?_; refine tkP 11 ?_; refine tkC 12 ?_
      intro K hK
      rw [if_pos (by rfl)]
      (refine step_appz (P := Tryz.prog) slVa Tryz.underlying3 _ _ rfl (S := G) (n := n) (k := k2) (xs := flatVV l) (zs := flatVV (List.replicate k2 zVV)) rfl (by first | rfl | exact congrArg (Value.int IntKind.i64) HWr.out) HOwn.out (by omega) (zeroVI k2) (flatVV_one _) (by omega) (by unfold maxLen; omega) ?_; intro a' k' c' w6 happ; obtain ⟨z1, z2⟩ := app_up (wr := wc.drew) (Keep.refl wc.drew Nope) happ; obtain rfl := happ.num; have h6 := HUP.out w6 _ z1 z2; have H6 := Lib.hid h6; clear happ z1 z2 h6; have c1' : w6.cell? ⟨b, 1, none⟩ = some (.slice a n c) := (by rw [← HN.out, (H6.out.blk 0 rfl).cell]; rfl); have y0 := (H6.out.blk 0 rfl).frozen 1)
      refine hK.out _ _ ?_ (fun hHeld => ?_)
      · (try dsimp only); first | exact c1' | exact c1
      clear hK K
      (try simp only [List.getElem_toArray, List.getElem_cons_succ, List.getElem_cons_zero, Act.put, List.setIfInBounds_toArray, List.set_cons_zero, List.set_cons_succ])
      refine tkF 13 ?_
      intro K hK
      go_simp
      refine hK.out _ _ ?_
      clear hK K
      refine tkP 14 ?_; refine tkF 15 ?_
      intro K hK
      go_simp
      refine hK.out _ _ ?_
      clear hK K
      refine wpAnyM_done (by kernel_rfl) ?_ _
      have hlr : (l ++ List.replicate k2 zVV).length = p := by rw [List.length_append, List.length_replicate, HN.out]; exact hk2
      have h7 := H6.out.write 0 rfl 1 (.slice a' p c')
      refine bodyPost_ret (results_none rfl _ _ _) rfl ⟨_, List.replicate k2 zVV, a', c', rfl, by rw [hlr]; exact hkp, by rw [hlr]; exact hp128, ?_⟩
      unfold spaL
      rw [hlr, flatVV_app]
      subst hk2
      exact h7
    · have hpn : p = n := by omega
      subst hpn
      have e1 : decide ((p : Int) > (p : Int)) = false := decide_eq_false (by omega)
      have e2 : decide (p < p) = false := decide_eq_false (by omega)
      go_wp2_with fail
      refine bodyPost_ret (results_none rfl _ _ _) rfl ⟨_, [], a, c, rfl, ?_, ?_, ?_⟩
      · rw [List.append_nil, HN.out]; exact hkp
      · rw [List.append_nil, HN.out]; exact hp128
      · rw [List.append_nil]; exact HB.out
end Go.Proofs.YtkiikblpgppmkaaGreatDoor

namespace Go.Proofs.YtkiikblpgppmkaaGreatDoor
open Go Go.RowKit
set_option linter.unusedVariables false
set_option linter.unusedSimpArgs false

theorem SpaOk.more {l zs : List VV} {m : Nat} {f : Nat → VV} (h : SpaOk l m f) (hl : (l ++ zs).length ≤ 128) : SpaOk (l ++ zs) m f := ⟨fun k hk => by
  have h1 := h.get k hk
  rw [List.getElem?_append_left (List.getElem?_eq_some_iff.1 h1).1]
  exact h1, hl⟩
theorem SpaOk.put {l : List VV} {m : Nat} {f : Nat → VV} (h : SpaOk l m f) {k : Nat} (hk : k < l.length) (v : VV) : SpaOk (l.set k v) (addW m k) (updV f k v) := ⟨fun j hj => by
  unfold updV
  by_cases e : j = k
  · subst e
    rw [if_pos rfl, List.getElem?_set_self hk]
  · rw [if_neg e, List.getElem?_set_ne (fun h => e h.symm)]
    rw [bit_add, Bool.or_eq_true] at hj
    rcases hj with hj | hj
    · exact h.get j hj
    · exact absurd (of_decide_eq_true hj) e, by rw [List.length_set]; exact h.len⟩
theorem SpaOk.del {l : List VV} {m : Nat} {f : Nat → VV} (h : SpaOk l m f) (k : Nat) (v : VV) : SpaOk (l.set k v) (delW m k) f := ⟨fun j hj => by
  obtain ⟨h1, h2⟩ := bit_del_le hj
  rw [List.getElem?_set_ne (fun e => h2 e.symm)]
  exact h.get j h1, by rw [List.length_set]; exact h.len⟩
theorem val_set : ∀ (l : List VV) (p : Nat) (v : VV), p < l.length → setL (flatVV l) (p * 3) [.int .i64 v.k, .int .i64 v.a, .int .i64 v.b] = flatVV (l.set p v)
  | [], p, v, h => by simp at h
  | x :: l, 0, v, h => rfl
  | x :: l, p + 1, v, h => by
    have ih := val_set l p v (by simpa using h)
    have e : (p + 1) * 3 = p * 3 + 3 := by omega
    rw [e, List.set_cons_succ]
    show setL (.int .i64 x.k :: .int .i64 x.a :: .int .i64 x.b :: flatVV l) (p * 3 + 3) _ = .int .i64 x.k :: .int .i64 x.a :: .int .i64 x.b :: flatVV (l.set p v)
    rw [← ih]
    rfl
def RetSpa (w0 : World) (R : List Asr) (b m : Nat) (f : Nat → VV) (v : Value) (e : Ending) (w' : World) : Prop := e = .returned v ∧ ∃ (l : List VV) (q : SpaB), SpaOk l m f ∧ St w0 w' (spaL b l m q ++ R)
set_option maxRecDepth 100000 in
set_option maxHeartbeats 2000000 in
theorem spa_put {w0 w : World} {R : List Asr} {b m : Nat} {l : List VV} {q : SpaB} {f : Nat → VV} (H : St w0 w (spaL b l m q ++ R)) (hD : SpaOk l m f) (hm : m < 2 ^ 64) (k : Nat) (hk : k < 64) (v : VV) :
    Calls Tryz.prog 388 #[ptr b, .int .i64 (k : Nat), v.val] w (RetSpa w0 R b (addW m k) (updV f k v) (.tuple #[(hadV m f k).val, .bool (m.testBit k)])) := by
  obtain ⟨vk, va, vb⟩ := v
  have HB := H.box2 #[.int .i64 vk, .int .i64 va, .int .i64 vb] #[.int .i64 0, .int .i64 0, .int .i64 0] 34 34
  have hb2 : St w0 _ (spaL b l m q ++ (blkA (w.heap.size + 1) #[.int .i64 0, .int .i64 0, .int .i64 0] 34 :: blkA w.heap.size #[.int .i64 vk, .int .i64 va, .int .i64 vb] 34 :: R)) := (show St w0 _ ([blkA b #[ptr q.sb, .slice q.a l.length q.c] 435, slA 34 3 (.slice q.a l.length q.c) l.length (flatVV l), hibA q.sb m, blkA (w.heap.size + 1) #[.int .i64 0, .int .i64 0, .int .i64 0] 34, blkA w.heap.size #[.int .i64 vk, .int .i64 va, .int .i64 vb] 34] ++ R) from St.sel (P := [_, _, _, _, _]) (R := R) [2, 3, 4, 0, 1] HB (by decide) rfl rfl)
  have HRo := Lib.hid (spa_room hb2 hD.len k hk)
  have HD := Lib.hid hD
  have HM := Lib.hid hm
  obtain ⟨⟨k0, a0, b0⟩, hv⟩ : ∃ v, hadV m f k = v := ⟨_, rfl⟩
  obtain ⟨t, ht⟩ : ∃ t, m.testBit k = t := ⟨_, rfl⟩
  have HV := Lib.hid hv
  have HT := Lib.hid ht
  rw [hv, ht]
  have e1 : decide ((k : Int) < 0) = false := decide_eq_false (by omega)
  have e2 : decide ((k : Int) ≥ 65536) = false := decide_eq_false (by omega)
  clear H HB hb2 hD hm hv ht
  unfold ptr VV.val at *
  go_enter Tryz.func388, Tryz.ntmps388
  go_upto_region 5 with (first
    | (go_at_call 390; refine HRo.out.mono ?_; rintro e w1 ⟨v1, zs, a1, c1, rfl, hlt, hle, h1⟩; have H1 := Lib.hid h1; have HL := Lib.hid (And.intro hlt hle); clear h1 hlt hle HRo)
    | (go_at_call 387; refine (show Calls Tryz.prog 387 #[.pointer (some ⟨b, 0, none⟩), .int .i64 (k : Nat)] _ (Ret _ (.tuple #[.agg #[.int .i64 k0, .int .i64 a0, .int .i64 b0], .bool t])) from by have h := spa_get H1.out (HD.out.more HL.out.2) HM.out k hk; rw [HV.out, HT.out] at h; exact h).mono ?_; rintro e w2 ⟨rfl, hk2⟩; have H2 := Lib.hid (H1.out.keep hk2); clear hk2 H1))
  have h6 := H2.out.box0 #[.int .i64 k0, .int .i64 a0, .int .i64 b0] 34
  obtain ⟨wb, hwb⟩ : ∃ wb, w2.alloc (.cells #[.int .i64 k0, .int .i64 a0, .int .i64 b0] 34) = wb := ⟨_, rfl⟩
  obtain ⟨wz, hwz⟩ : ∃ z, w2.heap.size = z := ⟨_, rfl⟩
  rw [hwb, hwz] at h6
  rw [hwb, hwz]
  obtain ⟨L, hL⟩ : ∃ L, l ++ zs = L := ⟨_, rfl⟩
  have HD2 := Lib.hid (hL ▸ HD.out.more HL.out.2)
  have hkL := HL.out
  rw [hL] at h6 hkL
  obtain ⟨n, hn⟩ : ∃ n, L.length = n := ⟨_, rfl⟩
  rw [hn] at hkL
  obtain ⟨hkn, hn128⟩ := hkL
  obtain ⟨G, hown, _, _⟩ := h6.rd 2 rfl
  obtain ⟨g, rfl, _⟩ := hown.head (by rw [hn]; omega)
  have c0 : wb.cell? ⟨b, 1, none⟩ = some (.slice (some ⟨g, 0, none⟩) n c1) := by rw [← hn, (h6.blk 1 rfl).cell]; rfl
  obtain ⟨v0, v1', v2, _, _, _⟩ := (h6.blk 5 rfl).three
  have H6 := Lib.hid h6
  have HN := Lib.hid hn
  have HLL := Lib.hid hL
  have e0 : decide (n ≤ k) = false := decide_eq_false (by omega)
  clear hwb hwz h6 H2 hL hn hown e1 e2 HL HD
  refine wp_region_M (r := 7) (S := fun w' => w'.cell? ⟨b, 1, none⟩ = some (.slice (some ⟨g, 0, none⟩) n c1) ∧ w'.cell? ⟨w.heap.size, 0, none⟩ = some (.int .i64 vk) ∧ w'.cell? ⟨w.heap.size, 1, none⟩ = some (.int .i64 va) ∧ w'.cell? ⟨w.heap.size, 2, none⟩ = some (.int .i64 vb)) (by kernel_rfl) ?_ (fun hHeld => ?_)
  · (try dsimp only); exact ⟨c0, v0, v1', v2⟩
  refine tkP 0 ?_; refine tkP 1 ?_; refine tkP 2 ?_; refine tkH 3 ?_; refine tkP 4 ?_; refine tkH 5 ?_; refine tkP 6 ?_; refine tkF 7 ?_
  intro K hK
  rw [if_pos (by rfl)]
  (refine St.stepMid (i := 2) (H6.out.drew) rfl (by have := HN.out; omega) 34 _ _ rfl (k * 3) #[.int .i64 vk, .int .i64 va, .int .i64 vb] rfl rfl (by kernel_rfl) (by kernel_rfl) (by have := HN.out; show k * 3 + 3 ≤ L.length * 3; omega) ?_; intro w5 h5; have H5 := Lib.hid h5; clear h5)
  refine hK.out _ _ ?_
  clear hK K
  (try simp only [List.getElem_toArray, List.getElem_cons_succ, List.getElem_cons_zero, Act.put, List.setIfInBounds_toArray, List.set_cons_zero, List.set_cons_succ])
  refine wpAnyM_done (by kernel_rfl) ?_ _
  have h5 := H5.out
  simp only [List.set_cons_succ, List.set_cons_zero] at h5
  have h5' : St w0 w5 (blkA wz #[.int .i64 k0, .int .i64 a0, .int .i64 b0] 34 :: blkA b #[ptr q.sb, .slice (some ⟨g, 0, none⟩) L.length c1] 435 :: slA 34 3 (.slice (some ⟨g, 0, none⟩) L.length c1) L.length (flatVV (L.set k ⟨vk, va, vb⟩)) :: hibA q.sb m :: blkA (w.heap.size + 1) #[.int .i64 0, .int .i64 0, .int .i64 0] 34 :: blkA w.heap.size #[.int .i64 vk, .int .i64 va, .int .i64 vb] 34 :: R) := by
    rw [← val_set L k ⟨vk, va, vb⟩ (by rw [HN.out]; exact hkn)]
    exact h5
  have d0 : w5.cell? ⟨b, 0, none⟩ = some (.pointer (some ⟨q.sb, 0, none⟩)) := by rw [(h5'.blk 1 rfl).cell]; rfl
  have hAd := hib_add h5' 3 rfl HM.out k hk
  simp only [List.set_cons_succ, List.set_cons_zero] at hAd
  unfold ptr at hAd
  have HAd := Lib.hid hAd
  clear h5 h5' H5 hAd c0 v0 v1' v2 hHeld H6 e0
  go_upto_region 7 with (go_at_call 123; refine HAd.out.mono ?_; rintro e w6 ⟨rfl, h6⟩; have H7 := Lib.hid h6; clear h6 HAd)
  obtain ⟨s0, s1, s2, _, _, _⟩ := (H7.out.blk 0 rfl).three
  obtain ⟨z1, z2, z3, y1, y2, y3⟩ := (H7.out.blk 4 rfl).three
  go_wp2_with fail
  have h8 := ((H7.out.write 4 rfl 0 (.int .i64 k0)).write 4 rfl 1 (.int .i64 a0)).write 4 rfl 2 (.int .i64 b0)
  obtain ⟨w8, hw8⟩ : ∃ w8, ((w6.setCell ⟨w.heap.size + 1, 0, none⟩ (.int .i64 k0)).setCell ⟨w.heap.size + 1, 1, none⟩ (.int .i64 a0)).setCell ⟨w.heap.size + 1, 2, none⟩ (.int .i64 b0) = w8 := ⟨_, rfl⟩
  rw [hw8] at h8
  try rw [hw8]
  obtain ⟨z1, z2, z3, _, _, _⟩ := (show Blk w8 (w.heap.size + 1) #[.int .i64 k0, .int .i64 a0, .int .i64 b0] 34 from h8.blk 4 rfl).three
  refine bodyPost_ret (v := .tuple #[.agg #[.int .i64 k0, .int .i64 a0, .int .i64 b0], .bool t]) (by simp [results, Tryz.results388, go_sem, z1, z2, z3]) rfl ⟨rfl, L.set k ⟨vk, va, vb⟩, ⟨q.sb, some ⟨g, 0, none⟩, c1⟩, HD2.out.put (by rw [HN.out]; exact hkn) _, ?_⟩
  have h9 : St w0 w8 ([blkA (w.heap.size + 1) #[.int .i64 k0, .int .i64 a0, .int .i64 b0] 34, blkA w.heap.size #[.int .i64 vk, .int .i64 va, .int .i64 vb] 34, blkA b #[ptr q.sb, .slice (some ⟨g, 0, none⟩) L.length c1] 435, slA 34 3 (.slice (some ⟨g, 0, none⟩) L.length c1) L.length (flatVV (L.set k ⟨vk, va, vb⟩)), hibA q.sb (addW m k)] ++ R) := St.sel (P := [_, _, _, _, _]) (R := R) [3, 4, 0, 1, 2] h8.rest (by decide) rfl rfl
  unfold spaL
  rw [List.length_set]
  exact h9.rest.rest
end Go.Proofs.YtkiikblpgppmkaaGreatDoor

namespace Go.Proofs.YtkiikblpgppmkaaGreatDoor
open Go Go.RowKit
set_option linter.unusedVariables false
set_option linter.unusedSimpArgs false

set_option maxRecDepth 100000 in
set_option maxHeartbeats 2000000 in
theorem spa_take {w0 w : World} {R : List Asr} {b m : Nat} {l : List VV} {q : SpaB} {f : Nat → VV} (H : St w0 w (spaL b l m q ++ R)) (hD : SpaOk l m f) (hm : m < 2 ^ 64) (k : Nat) (hk : k < 64) :
    Calls Tryz.prog 389 #[ptr b, .int .i64 (k : Nat)] w (RetSpa w0 R b (delW m k) f (.tuple #[(hadV m f k).val, .bool (m.testBit k)])) := by
  have HB := H.box0 #[.int .i64 0, .int .i64 0, .int .i64 0] 34
  have hb2 : St w0 _ (spaL b l m q ++ (blkA w.heap.size #[.int .i64 0, .int .i64 0, .int .i64 0] 34 :: R)) := (show St w0 _ ([blkA b #[ptr q.sb, .slice q.a l.length q.c] 435, slA 34 3 (.slice q.a l.length q.c) l.length (flatVV l), hibA q.sb m, blkA w.heap.size #[.int .i64 0, .int .i64 0, .int .i64 0] 34] ++ R) from St.sel (P := [_, _, _, _]) (R := R) [1, 2, 3, 0] HB (by decide) rfl rfl)
  have hg := spa_get hb2 hD hm k hk
  have hget := hD.get k
  have HD := Lib.hid hD
  have HM := Lib.hid hm
  have HB2 := Lib.hid hb2
  have hhad : m.testBit k = true → hadV m f k = f k := fun h => by unfold hadV; rw [h, if_pos rfl]
  obtain ⟨⟨k0, a0, b0⟩, hv⟩ : ∃ v, hadV m f k = v := ⟨_, rfl⟩
  obtain ⟨t, ht⟩ : ∃ t, m.testBit k = t := ⟨_, rfl⟩
  rw [hv] at hhad
  rw [hv, ht] at hg
  rw [ht] at hget hhad
  have HT := Lib.hid ht
  rw [hv, ht]
  have HG := Lib.hid hg
  have HGet := Lib.hid hget
  have HHad := Lib.hid hhad
  clear H HB hb2 hD hm hv ht hg hget hhad
  unfold ptr VV.val at *
  go_enter Tryz.func389, Tryz.ntmps389
  go_upto_region 2 with (go_at_call 387; refine HG.out.mono ?_; rintro e w2 ⟨rfl, hk2⟩; have H2 := Lib.hid (HB2.out.keep hk2); clear hk2 HB2 HG)
  have h6 := H2.out.box0 #[.int .i64 k0, .int .i64 a0, .int .i64 b0] 34
  obtain ⟨wb, hwb⟩ : ∃ wb, w2.alloc (.cells #[.int .i64 k0, .int .i64 a0, .int .i64 b0] 34) = wb := ⟨_, rfl⟩
  obtain ⟨wz, hwz⟩ : ∃ z, w2.heap.size = z := ⟨_, rfl⟩
  rw [hwb, hwz] at h6
  rw [hwb, hwz]
  clear hwb hwz H2
  have H6 := Lib.hid h6
  cases t with
  | false =>
    obtain ⟨s0, s1, s2, _, _, _⟩ := (h6.blk 0 rfl).three
    obtain ⟨z1, z2, z3, y1, y2, y3⟩ := (h6.blk 4 rfl).three
    clear h6
    go_wp2_with fail
    have h8 := ((H6.out.write 4 rfl 0 (.int .i64 k0)).write 4 rfl 1 (.int .i64 a0)).write 4 rfl 2 (.int .i64 b0)
    obtain ⟨w8, hw8⟩ : ∃ w8, ((wb.setCell ⟨w.heap.size, 0, none⟩ (.int .i64 k0)).setCell ⟨w.heap.size, 1, none⟩ (.int .i64 a0)).setCell ⟨w.heap.size, 2, none⟩ (.int .i64 b0) = w8 := ⟨_, rfl⟩
    rw [hw8] at h8
    try rw [hw8]
    obtain ⟨z1, z2, z3, _, _, _⟩ := (show Blk w8 w.heap.size #[.int .i64 k0, .int .i64 a0, .int .i64 b0] 34 from h8.blk 4 rfl).three
    refine bodyPost_ret (v := .tuple #[.agg #[.int .i64 k0, .int .i64 a0, .int .i64 b0], .bool false]) (by simp [results, Tryz.results389, go_sem, z1, z2, z3]) rfl ⟨rfl, l, q, ?_, ?_⟩
    · rw [delW_no HM.out HT.out]
      exact HD.out
    · have h9 : St w0 w8 ([blkA w.heap.size #[.int .i64 k0, .int .i64 a0, .int .i64 b0] 34, blkA b #[ptr q.sb, .slice q.a l.length q.c] 435, slA 34 3 (.slice q.a l.length q.c) l.length (flatVV l), hibA q.sb m] ++ R) := St.sel (P := [_, _, _, _]) (R := R) [3, 0, 1, 2] h8.rest (by decide) rfl rfl
      rw [delW_no HM.out HT.out]
      exact h9.rest
  | true =>
    have hL := HGet.out rfl
    rw [← HHad.out rfl] at hL
    have hkL := (List.getElem?_eq_some_iff.1 hL).1
    obtain ⟨n, hn⟩ : ∃ n, l.length = n := ⟨_, rfl⟩
    have HN := Lib.hid hn
    have HRm := hib_remove h6 3 rfl HM.out k hk
    simp only [List.set_cons_succ, List.set_cons_zero] at HRm
    unfold ptr at HRm
    have HRm2 := Lib.hid HRm
    have d0 : wb.cell? ⟨b, 0, none⟩ = some (.pointer (some ⟨q.sb, 0, none⟩)) := by rw [(h6.blk 1 rfl).cell]; rfl
    have HL := Lib.hid hL
    have HKL := Lib.hid hkL
    clear h6 HRm H6 hn hL hkL
    go_upto_region 4 with (go_at_call 148; refine HRm2.out.mono ?_; rintro e w6 ⟨rfl, h7⟩; have H7 := Lib.hid h7; clear h7 HRm2)
    obtain ⟨sb, a, c⟩ := q
    obtain ⟨G, hown, _, _⟩ := H7.out.rd 2 (e := 34) (size := 3) (n := l.length) (v := .slice a l.length c) (xs := flatVV l) rfl
    obtain ⟨g, rfl, _, _, hf, hc, _⟩ := hown.head (Nat.lt_of_le_of_lt (Nat.zero_le k) HKL.out)
    have hc2 : ∀ j, j < 3 → w6.cell? ⟨g, k * 3 + j, none⟩ = (VV.cells ⟨k0, a0, b0⟩)[j]? := fun j hj => by
      have h1 : k * 3 + 3 ≤ l.length * 3 := by have := HKL.out; omega
      rw [hc (k * 3 + j) (by omega)]
      exact flat_get VV.cells 3 (fun _ => rfl) l k j _ HL.out hj
    have x0 : w6.cell? ⟨g, k * 3, none⟩ = some (.int .i64 k0) := hc2 0 (by decide)
    have x1 : w6.cell? ⟨g, k * 3 + 1, none⟩ = some (.int .i64 a0) := hc2 1 (by decide)
    have x2 : w6.cell? ⟨g, k * 3 + 2, none⟩ = some (.int .i64 b0) := hc2 2 (by decide)
    have f0 : w6.frozen? ⟨g, k * 3, none⟩ = false := hf _
    have f1 : w6.frozen? ⟨g, k * 3 + 1, none⟩ = false := hf _
    have f2 : w6.frozen? ⟨g, k * 3 + 2, none⟩ = false := hf _
    have c1 : w6.cell? ⟨b, 1, none⟩ = some (.slice (some ⟨g, 0, none⟩) n c) := by rw [← HN.out, (H7.out.blk 1 rfl).cell]; rfl
    have e0 : decide (n ≤ k) = false := decide_eq_false (by have := HKL.out; have := HN.out; omega)
    have hkn : k < n := by have := HKL.out; have := HN.out; omega
    clear hown hf hc hc2 d0 HGet HHad
    go_upto_region 5 with fail
    have h8 := St.storeL (i := 2) (by have := HKL.out; omega) [.int .i64 0, .int .i64 0, .int .i64 0] (k * 3) (flatVV l) w6 H7.out rfl
    rw [show [Value.int .i64 0, .int .i64 0, .int .i64 0] = [.int .i64 zVV.k, .int .i64 zVV.a, .int .i64 zVV.b] from rfl, val_set l k zVV HKL.out] at h8
    have h8' : St w0 (((w6.setCell ⟨g, k * 3, none⟩ (.int .i64 0)).setCell ⟨g, k * 3 + 1, none⟩ (.int .i64 0)).setCell ⟨g, k * 3 + 2, none⟩ (.int .i64 0)) (blkA wz #[.int .i64 k0, .int .i64 a0, .int .i64 b0] 34 :: blkA b #[ptr sb, .slice (some ⟨g, 0, none⟩) l.length c] 435 :: slA 34 3 (.slice (some ⟨g, 0, none⟩) l.length c) l.length (flatVV (l.set k zVV)) :: hibA sb (delW m k) :: blkA w.heap.size #[.int .i64 0, .int .i64 0, .int .i64 0] 34 :: R) := h8
    obtain ⟨w7, hw7⟩ : ∃ w7, ((w6.setCell ⟨g, k * 3, none⟩ (.int .i64 0)).setCell ⟨g, k * 3 + 1, none⟩ (.int .i64 0)).setCell ⟨g, k * 3 + 2, none⟩ (.int .i64 0) = w7 := ⟨_, rfl⟩
    rw [hw7] at h8'
    rw [hw7]
    clear h8 hw7
    obtain ⟨s0, s1, s2, _, _, _⟩ := (h8'.blk 0 rfl).three
    obtain ⟨z1, z2, z3, y1, y2, y3⟩ := (h8'.blk 4 rfl).three
    have H8 := Lib.hid h8'
    clear h8'
    go_wp2_with fail
    have h9 := ((H8.out.write 4 rfl 0 (.int .i64 k0)).write 4 rfl 1 (.int .i64 a0)).write 4 rfl 2 (.int .i64 b0)
    obtain ⟨w8, hw8⟩ : ∃ w8, ((w7.setCell ⟨w.heap.size, 0, none⟩ (.int .i64 k0)).setCell ⟨w.heap.size, 1, none⟩ (.int .i64 a0)).setCell ⟨w.heap.size, 2, none⟩ (.int .i64 b0) = w8 := ⟨_, rfl⟩
    rw [hw8] at h9
    try rw [hw8]
    obtain ⟨z1, z2, z3, _, _, _⟩ := (show Blk w8 w.heap.size #[.int .i64 k0, .int .i64 a0, .int .i64 b0] 34 from h9.blk 4 rfl).three
    refine bodyPost_ret (v := .tuple #[.agg #[.int .i64 k0, .int .i64 a0, .int .i64 b0], .bool true]) (by simp [results, Tryz.results389, go_sem, z1, z2, z3]) rfl ⟨rfl, l.set k zVV, ⟨sb, some ⟨g, 0, none⟩, c⟩, HD.out.del k _, ?_⟩
    have h10 : St w0 w8 ([blkA w.heap.size #[.int .i64 k0, .int .i64 a0, .int .i64 b0] 34, blkA b #[ptr sb, .slice (some ⟨g, 0, none⟩) l.length c] 435, slA 34 3 (.slice (some ⟨g, 0, none⟩) l.length c) l.length (flatVV (l.set k zVV)), hibA sb (delW m k)] ++ R) := St.sel (P := [_, _, _, _]) (R := R) [3, 0, 1, 2] h9.rest (by decide) rfl rfl
    unfold spaL
    rw [List.length_set]
    exact h10.rest
theorem SpaOk.start (f : Nat → VV) : SpaOk [] 0 f := ⟨fun k hk => by simp at hk, Nat.zero_le _⟩
set_option maxHeartbeats 1000000 in
theorem spa_new {w0 w : World} {L : List Asr} (H : St w0 w L) : Calls Tryz.prog 285 #[] w (fun e w' => ∃ b q, e = .returned (.pointer (some ⟨b, 0, none⟩)) ∧ St w0 w' (spaL b [] 0 q ++ L)) := by
  have HN := Lib.hid (hib_new' w)
  have HH := Lib.hid H
  clear H
  go_enter Tryz.func285, Tryz.ntmps285
  go_wp2_with (go_at_call 215; refine HN.out.mono ?_; rintro e w1 ⟨sb, rfl, hA, hK⟩; have H1 := Lib.hid (HH.out.add hK hA).first; clear hA hK HN)
  have h2 := (H1.out.add (Keep.refl _ _) (A := slA 34 3 (.slice none 0 0) 0 []) (Own.nil _ _ _ _)).first
  have h3 := h2.box0 #[ptr sb, .slice none 0 0] 435
  have H3 := Lib.hid h3
  go_ret
  exact ⟨_, ⟨sb, none, 0⟩, rfl, H3.out⟩
end Go.Proofs.YtkiikblpgppmkaaGreatDoor

namespace Go.Proofs.YtkiikblpgppmkaaGreatDoor
open Go Go.RowKit
set_option linter.unusedVariables false
set_option linter.unusedSimpArgs false

/-- A table of slots has just the values of a mask. -/
structure HashOk (l : List SlotV) (m : Nat) (f : Nat → VV) : Prop where
  inv : HInv l 64
  cnt : cntK 1 l = pop m
  has : ∀ j a b c, Has l j a b c ↔ ∃ k : Nat, j = k ∧ m.testBit k = true ∧ (f k).k = a ∧ (f k).a = b ∧ (f k).b = c
def denF (b m : Nat) (f : Nat → VV) (x : List RowV × MapD × DenB) : List Asr := denL b x.1 x.2.1 x.2.2 ++ [pureA (DenOk x.1 x.2.1 m f)]
def spaF (b m : Nat) (f : Nat → VV) (x : List VV × SpaB) : List Asr := spaL b x.1 m x.2 ++ [pureA (SpaOk x.1 m f)]
/-- Where values are kept: 1: side by side; 2: each at its place; 3: in a table found by sums; 4: nowhere, all are nought. -/
def plA (var b m : Nat) (f : Nat → VV) : Asr :=
  if var = 4 then starA [hibA b m, pureA (∀ k, m.testBit k = true → f k = tagV)]
  else if var = 1 then exA fun x => starA (denF b m f x)
  else if var = 2 then exA fun x => starA (spaF b m f x)
  else exA fun l => starA [hashA b l, pureA (HashOk l m f)]

theorem Blk.new1 (w : World) (o : Obj) (cs : Array Value) (t : TypeId) : Blk ((w.alloc o).alloc (.cells cs t)) (w.heap.size + 1) cs t := by
  have h := Blk.new (w.alloc o) cs t
  rwa [World.size_alloc] at h
theorem Blk.new2 (w : World) (o o2 : Obj) (cs : Array Value) (t : TypeId) : Blk (((w.alloc o).alloc o2).alloc (.cells cs t)) (w.heap.size + 1 + 1) cs t := by
  have h := Blk.new ((w.alloc o).alloc o2) cs t
  rwa [World.size_alloc, World.size_alloc] at h
/-- Three cells of the call's own are written. -/
theorem Keep.set3 {a w : World} {b : Nat} (h : Keep a w Nope) (hb : a.heap.size ≤ b) (u v s : Value) : Keep a (((w.setCell ⟨b, 0, none⟩ u).setCell ⟨b, 1, none⟩ v).setCell ⟨b, 2, none⟩ s) Nope :=
  ((h.setCell (p := ⟨b, 0, none⟩) (.inr hb) u).setCell (p := ⟨b, 1, none⟩) (.inr hb) v).setCell (p := ⟨b, 2, none⟩) (.inr hb) s
theorem value_tag (w : World) : Calls Tryz.prog 402 #[] w (Ret w (.agg #[.int .i64 3, .int .i64 0, .int .i64 0])) := by
  go_enter Tryz.func402, Tryz.ntmps402
  go_wp2_with fail
  refine bodyPost_ret (v := .agg #[.int .i64 3, .int .i64 0, .int .i64 0]) (by simp [results, Tryz.results402, go_sem]) rfl ⟨rfl, (show Keep w _ Nope from (by (repeat (first | exact Keep.refl _ _ | apply Keep.drew | apply Keep.drewN | apply Keep.alloc))))⟩

/-- The value that a null slot tells. -/
def nulV (t : Bool) : Value := if t then .agg #[.int .i64 3, .int .i64 0, .int .i64 0] else .agg #[.int .i64 0, .int .i64 0, .int .i64 0]
set_option maxHeartbeats 1000000 in
theorem null_get (b m k : Nat) (hk : k < 64) (w : World) (h : RdHib w b m) :
    Calls Tryz.prog 399 #[.agg #[ptr b], .int .i64 (k : Nat)] w (Ret w (.tuple #[nulV (m.testBit k), .bool (m.testBit k)])) := by
  have hk0 := (show Keep w ((w.alloc (.cells #[ptr b] 403)).alloc (.cells #[.int .i64 0, .int .i64 0, .int .i64 0] 34)) Nope from ((Keep.refl w Nope).alloc _).alloc _)
  have HH := Lib.hid (hib_has b m k hk _ (h.keep hk0))
  have HK0 := Lib.hid hk0
  obtain ⟨t, ht⟩ : ∃ t, m.testBit k = t := ⟨_, rfl⟩
  rw [ht] at HH ⊢
  clear h ht hk0
  have HT := Lib.hid value_tag
  unfold ptr at *
  go_enter Tryz.func399, Tryz.ntmps399
  go_wp2_with fail
  refine HH.out.mono ?_
  rintro e w1 ⟨rfl, hk1⟩
  have HK1 := Lib.hid (HK0.out.trans hk1 (fun _ f => f.elim))
  have HB1 := Lib.hid ((Blk.new1 w (.cells #[.pointer (some ⟨b, 0, none⟩)] 403) #[.int .i64 0, .int .i64 0, .int .i64 0] 34).keep hk1 (fun f => f))
  clear hk1 HH
  cases t
  · obtain ⟨z0, z1, z2, y0, y1, y2⟩ := HB1.out.three
    obtain ⟨q0, q1, q2, _, _, _⟩ := (HB1.out.set3 (.int .i64 0) (.int .i64 0) (.int .i64 0)).three
    have HF := Lib.hid (HK1.out.set3 (b := w.heap.size + 1) (by omega) (.int .i64 0) (.int .i64 0) (.int .i64 0))
    unfold nulV
    go_wp2_with fail
    refine bodyPost_ret (v := .tuple #[.agg #[.int .i64 0, .int .i64 0, .int .i64 0], .bool false]) (by simp [results, Tryz.results399, go_sem, q0, q1, q2]) rfl ⟨rfl, HF.out⟩
  · unfold nulV
    go_wp2_with (go_at_call 402; refine (HT.out _).mono ?_; rintro e w2 ⟨rfl, hk2⟩; have HK2 := Lib.hid (HK1.out.trans hk2 (fun _ f => f.elim)); have HB2 := Lib.hid (HB1.out.keep hk2 (fun f => f)); clear hk2; obtain ⟨z0, z1, z2, y0, y1, y2⟩ := HB2.out.three)
    obtain ⟨q0, q1, q2, _, _, _⟩ := (HB2.out.set3 (.int .i64 3) (.int .i64 0) (.int .i64 0)).three
    have HF := Lib.hid (HK2.out.set3 (b := w.heap.size + 1) (by omega) (.int .i64 3) (.int .i64 0) (.int .i64 0))
    refine bodyPost_ret (v := .tuple #[.agg #[.int .i64 3, .int .i64 0, .int .i64 0], .bool true]) (by simp [results, Tryz.results399, go_sem, q0, q1, q2]) rfl ⟨rfl, HF.out⟩
set_option maxHeartbeats 1000000 in
theorem null_put {w0 w : World} {L : List Asr} {b m : Nat} (H : St w0 w L) (p : Nat) (hp : L[p]? = some (hibA b m)) (hm : m < 2 ^ 64) (k : Nat) (hk : k < 64) (v : VV) :
    Calls Tryz.prog 400 #[.agg #[ptr b], .int .i64 (k : Nat), v.val] w (fun e w' => e = .returned (.tuple #[nulV (m.testBit k), .bool (m.testBit k)]) ∧ St w0 w' (L.set p (hibA b (addW m k)))) := by
  obtain ⟨vk, va, vb⟩ := v
  have HB := Lib.hid (H.box3 #[ptr b] #[.int .i64 vk, .int .i64 va, .int .i64 vb] #[.int .i64 0, .int .i64 0, .int .i64 0] 403 34 34)
  have HG := Lib.hid (fun w' hk' => null_get b m k hk w' ((H.hibRd p hp hm).keep hk'))
  have HP := Lib.hid hp
  have HM := Lib.hid hm
  obtain ⟨t, ht⟩ : ∃ t, m.testBit k = t := ⟨_, rfl⟩
  have HTT := Lib.hid ht
  rw [ht] at HG ⊢
  obtain ⟨ov, hov⟩ : ∃ a, nulV t = .agg #[.int .i64 a, .int .i64 0, .int .i64 0] := by cases t; exact ⟨0, rfl⟩; exact ⟨3, rfl⟩
  rw [hov] at HG ⊢
  clear H hp hm ht hov
  unfold ptr VV.val at *
  go_enter Tryz.func400, Tryz.ntmps400
  go_wp2_with (first
    | (go_at_call 399; refine (HG.out _ (show Keep w _ Nope from (by (repeat (first | exact Keep.refl _ _ | apply Keep.drew | apply Keep.drewN | apply Keep.alloc))))).mono ?_; rintro e w1 ⟨rfl, hk1⟩; have HB1 := Lib.hid ((HB.out.keep hk1).box0 #[.int .i64 ov, .int .i64 0, .int .i64 0] 34); have xb : (w1.alloc (.cells #[.int .i64 ov, .int .i64 0, .int .i64 0] 34)).cell? ⟨w.heap.size, 0, none⟩ = some (.pointer (some ⟨b, 0, none⟩)) := (by rw [(HB1.out.blk 3 rfl).cell]; rfl); clear hk1 HG)
    | (go_at_call 123; refine (hib_add HB1.out (p + 4) HP.out HM.out k hk).mono ?_; rintro e w2 ⟨rfl, h2⟩; have HB2 := Lib.hid h2; clear h2 xb; obtain ⟨o0, o1, o2, _, _, _⟩ := (HB2.out.blk 0 (b := w1.heap.size) (cs := #[.int .i64 ov, .int .i64 0, .int .i64 0]) (t := 34) rfl).three; obtain ⟨z0, z1, z2, y0, y1, y2⟩ := (HB2.out.blk 1 (b := w.heap.size + 1 + 1) (cs := #[.int .i64 0, .int .i64 0, .int .i64 0]) (t := 34) rfl).three))
  obtain ⟨q0, q1, q2, _, _, _⟩ := ((HB2.out.blk 1 (b := w.heap.size + 1 + 1) (cs := #[.int .i64 0, .int .i64 0, .int .i64 0]) (t := 34) rfl).set3 (.int .i64 ov) (.int .i64 0) (.int .i64 0)).three
  have HF := Lib.hid ((((HB2.out.write 1 (b := w.heap.size + 1 + 1) (cs := #[.int .i64 0, .int .i64 0, .int .i64 0]) (t := 34) rfl 0 (.int .i64 ov)).write 1 rfl 1 (.int .i64 0)).write 1 rfl 2 (.int .i64 0)).rest.rest.rest.rest)
  clear z0 z1 z2 y0 y1 y2
  refine bodyPost_ret (v := .tuple #[.agg #[.int .i64 ov, .int .i64 0, .int .i64 0], .bool t]) (by simp [results, Tryz.results400, go_sem, q0, q1, q2]) rfl ⟨rfl, HF.out⟩
set_option maxHeartbeats 1000000 in
theorem null_take {w0 w : World} {L : List Asr} {b m : Nat} (H : St w0 w L) (p : Nat) (hp : L[p]? = some (hibA b m)) (hm : m < 2 ^ 64) (k : Nat) (hk : k < 64) :
    Calls Tryz.prog 401 #[.agg #[ptr b], .int .i64 (k : Nat)] w (fun e w' => e = .returned (.tuple #[nulV (m.testBit k), .bool (m.testBit k)]) ∧ St w0 w' (L.set p (hibA b (delW m k)))) := by
  have HB := Lib.hid (H.box2 #[ptr b] #[.int .i64 0, .int .i64 0, .int .i64 0] 403 34)
  have HG := Lib.hid (fun w' hk' => null_get b m k hk w' ((H.hibRd p hp hm).keep hk'))
  have HP := Lib.hid hp
  have HM := Lib.hid hm
  obtain ⟨t, ht⟩ : ∃ t, m.testBit k = t := ⟨_, rfl⟩
  have HTT := Lib.hid ht
  rw [ht] at HG ⊢
  obtain ⟨ov, hov⟩ : ∃ a, nulV t = .agg #[.int .i64 a, .int .i64 0, .int .i64 0] := by cases t; exact ⟨0, rfl⟩; exact ⟨3, rfl⟩
  rw [hov] at HG ⊢
  clear H hp hm ht hov
  unfold ptr at *
  go_enter Tryz.func401, Tryz.ntmps401
  go_wp2_with (first
    | (go_at_call 399; refine (HG.out _ (show Keep w _ Nope from (by (repeat (first | exact Keep.refl _ _ | apply Keep.drew | apply Keep.drewN | apply Keep.alloc))))).mono ?_; rintro e w1 ⟨rfl, hk1⟩; have HB1 := Lib.hid ((HB.out.keep hk1).box0 #[.int .i64 ov, .int .i64 0, .int .i64 0] 34); have xb : (w1.alloc (.cells #[.int .i64 ov, .int .i64 0, .int .i64 0] 34)).cell? ⟨w.heap.size, 0, none⟩ = some (.pointer (some ⟨b, 0, none⟩)) := (by rw [(HB1.out.blk 2 rfl).cell]; rfl); clear hk1 HG)
    | (go_at_call 148; refine (hib_remove HB1.out (p + 3) HP.out HM.out k hk).mono ?_; rintro e w2 ⟨rfl, h2⟩; have HB2 := Lib.hid h2; clear h2 xb; obtain ⟨o0, o1, o2, _, _, _⟩ := (HB2.out.blk 0 (b := w1.heap.size) (cs := #[.int .i64 ov, .int .i64 0, .int .i64 0]) (t := 34) rfl).three; obtain ⟨z0, z1, z2, y0, y1, y2⟩ := (HB2.out.blk 1 (b := w.heap.size + 1) (cs := #[.int .i64 0, .int .i64 0, .int .i64 0]) (t := 34) rfl).three))
  obtain ⟨q0, q1, q2, _, _, _⟩ := ((HB2.out.blk 1 (b := w.heap.size + 1) (cs := #[.int .i64 0, .int .i64 0, .int .i64 0]) (t := 34) rfl).set3 (.int .i64 ov) (.int .i64 0) (.int .i64 0)).three
  have HF := Lib.hid ((((HB2.out.write 1 (b := w.heap.size + 1) (cs := #[.int .i64 0, .int .i64 0, .int .i64 0]) (t := 34) rfl 0 (.int .i64 ov)).write 1 rfl 1 (.int .i64 0)).write 1 rfl 2 (.int .i64 0)).rest.rest.rest)
  clear z0 z1 z2 y0 y1 y2
  refine bodyPost_ret (v := .tuple #[.agg #[.int .i64 ov, .int .i64 0, .int .i64 0], .bool t]) (by simp [results, Tryz.results401, go_sem, q0, q1, q2]) rfl ⟨rfl, HF.out⟩
end Go.Proofs.YtkiikblpgppmkaaGreatDoor
