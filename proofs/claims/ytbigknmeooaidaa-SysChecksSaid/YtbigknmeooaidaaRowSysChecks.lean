/-
  SysChecks answers true for every world, any system and any system's numbers; no condition.
-/
import Derived.Test.YtbigknmeooaidaaSysCk
import Derived.Test.YtbigknmeooaidaaOpenSysN
import Derived.Test.YtbigknmeooaidaaOpen
namespace Go.Proofs.Ytbigknmeooaidaa
open Go Go.RowKit
set_option linter.unusedVariables false
set_option linter.unusedSimpArgs false
/-- What lies in a field of a struct weighs no more than the whole. -/
theorem weigh_sub {H : Type} {enc : TypeId × Value → H} {P : Program} {w : World} {base : Nat} {sp : Nat → Bool} {held : Bool} {t : TypeId} {fs : Array Field} {cs : List Value} {d : DataW H} {ps : List MemPlace} {fuel L : Nat}
    (ht : P.underlying t = some (.struct fs)) (h : DataW.trod enc P w base sp held fuel t cs = some (d, ps)) (hw : ∀ n ∈ d.weights P t, n ≤ L) (i : Nat) (f : Field) (hf : fs[i]? = some f) :
    ∃ (m : Nat) (d' : DataW H) (ps' : List MemPlace), DataW.trod enc P w base sp held m f.type ((cs.drop f.offset).take (P.cellsOf f.type)) = some (d', ps') ∧ ∀ n ∈ d'.weights P f.type, n ≤ L := by
  obtain ⟨xs, m, _, hx, _, hl, h3⟩ := DataW.trod_struct ht h
  have h4 := h3 i f hf
  have hi : i < xs.length := by rw [hl]; exact (Array.getElem?_eq_some_iff.1 hf).1
  rw [List.getElem?_eq_getElem hi] at h4
  have hd : d = .agg (xs.map (·.1)) := congrArg Prod.fst hx
  refine ⟨m, xs[i].1, xs[i].2, h4, fun n hn => ?_⟩
  have h9 := DataW.weights_mem_each (P := P) (ts := fs.toList.map (·.type)) (ds := xs.map (·.1)) (j := i) (t := f.type) (d := xs[i].1) (by simp [hf]) (by simp [hi]) _ hn
  exact hw _ (by rw [hd]; simp only [DataW.weights, ht]; exact h9)
set_option maxRecDepth 20000 in
theorem sysN_argL {H : Type} {enc : TypeId × Value → H} {w : World} {base : Nat} {sp : Nat → Bool} {held : Bool} {r : Reach} {v : Value} {d : DataW H} {ps : List MemPlace} (hv : Value.okWide Try.prog w r base 52 v) (h : DataW.Trod enc Try.prog w 0 sp held 52 v d ps)
    (hw : ∀ n ∈ d.weights Try.prog 52, n ≤ reachBytes) : ∃ x : SysN, v = x.val ∧ SysNRd (fun i => i < w.heap.size) w x ∧ x.after.length * 8 ≤ 140737488355328 ∧ LongOk x.raw.x := by
  obtain ⟨x, rfl, h2, h3⟩ := sysN_arg hv h hw
  refine ⟨x, rfl, h2, h3, ?_⟩
  obtain ⟨fuel, h4⟩ := h
  have cr : Try.prog.cellsOf 23 = 1 := by kernel_rfl
  have cy : Try.prog.cellsOf 35 = 8 := by kernel_rfl
  have cu : Try.prog.cellsOf 31 = 5 := by kernel_rfl
  have cb : Try.prog.bytesOf 3 = 8 := by kernel_rfl
  obtain ⟨m1, d1, p1, h5, hw1⟩ := weigh_sub Try.underlying52 h4 hw 4 _ rfl
  obtain ⟨m2, d2, p2, h6, hw2⟩ := weigh_sub Try.underlying35 h5 hw1 0 _ rfl
  have hr := reachBytes_lt
  have q0 := weigh_field Try.underlying31 h6 hw2 0 _ rfl Try.underlying23 (a := x.raw.x.r.a) (n := x.raw.x.r.l.length) (c := x.raw.x.r.c) (by show (((((x.rowO.toList.drop 4).take (Try.prog.cellsOf 35)).drop 0).take (Try.prog.cellsOf 31)).drop 0).take (Try.prog.cellsOf 23) = _; rw [cy, cu, cr]; rfl)
  have q1 := weigh_field Try.underlying31 h6 hw2 1 _ rfl Try.underlying23 (a := x.raw.x.w.a) (n := x.raw.x.w.l.length) (c := x.raw.x.w.c) (by show (((((x.rowO.toList.drop 4).take (Try.prog.cellsOf 35)).drop 0).take (Try.prog.cellsOf 31)).drop 1).take (Try.prog.cellsOf 23) = _; rw [cy, cu, cr]; rfl)
  have q2 := weigh_field Try.underlying31 h6 hw2 2 _ rfl Try.underlying23 (a := x.raw.x.rr.a) (n := x.raw.x.rr.l.length) (c := x.raw.x.rr.c) (by show (((((x.rowO.toList.drop 4).take (Try.prog.cellsOf 35)).drop 0).take (Try.prog.cellsOf 31)).drop 2).take (Try.prog.cellsOf 23) = _; rw [cy, cu, cr]; rfl)
  have q3 := weigh_field Try.underlying31 h6 hw2 3 _ rfl Try.underlying23 (a := x.raw.x.rw'.a) (n := x.raw.x.rw'.l.length) (c := x.raw.x.rw'.c) (by show (((((x.rowO.toList.drop 4).take (Try.prog.cellsOf 35)).drop 0).take (Try.prog.cellsOf 31)).drop 3).take (Try.prog.cellsOf 23) = _; rw [cy, cu, cr]; rfl)
  rw [cb] at q0 q1 q2 q3
  exact LongOk.of (by omega) (by omega) (by omega) (by omega)
end Go.Proofs.Ytbigknmeooaidaa
namespace Go.Proofs.Ytbigknmeooaidaa.sysChecks
open Go Go.ChangeShapes Go.WideShapes Go.ChangeAt Go.RowKit
open Go.ChangeMaps (open_string shut_string)
set_option linter.unusedVariables false
set_option linter.unusedSimpArgs false

theorem own : ownKnob Try.prog.godebug = none := by kernel_rfl
theorem laidOut : laidOutB Try.prog = true := by kernel_rfl

set_option maxRecDepth 100000 in
theorem lifted (os : Os) (started : os.Started) (H : Type) (enc : TypeId × Value → H) :
    ReturnsInHanded {} Try.checked os 9 .any (Rows.sysChecksSpec.pre6 enc Try.prog Try.f9 Rows.sysChecksRow.domain false) (Rows.sysChecksSpec.post enc Try.prog Try.f9 false true false false) := by
  refine returnsInHanded_of_change_sized (C := Try.checked) own started (by kernel_rfl) Try.func9
    (ChangeSpec.witness6 (enc := enc) (C := Try.checked) false ⟨#[], #[.agg #[.int .i64 0, .int .i64 0, .slice none 0 0, .slice none 0 0], .agg #[.slice none 0 0, .slice none 0 0, .slice none 0 0, .slice none 0 0, .bool false, .slice none 0 0, .slice none 0 0, .slice none 0 0], .agg #[.slice none 0 0, .slice none 0 0, .slice none 0 0, .int .i64 0, .slice none 0 0, .slice none 0 0, .slice none 0 0, .slice none 0 0, .bool false, .slice none 0 0, .slice none 0 0, .slice none 0 0]], []⟩ 8 (by kernel_rfl) (by kernel_rfl) (by kernel_rfl) (by kernel_rfl)) ?_
  intro W base args ds gs before hval0 hW hcnd hsz0 _
  have hval : ∀ (j : Nat) t v, Try.f9.params[j]? = some t → args[j]? = some v → Value.okWide Try.prog W .any base t v := hval0
  have hW' := hW
  obtain ⟨p, q, hA0, hV, rfl, hfz, hnd⟩ := hW
  have hsz1 := hsz0
  have hA : DataW.TrodAll enc Try.prog W 0 (fun _ => true) true Try.f9.params.toList args.toList ds p := hA0
  rw [Try.params9] at hA hval
  obtain ⟨v0, vs0, d0, ds0, p0, q0, hargs, rfl, rfl, h0, r0⟩ := trodAll_cons hA
  obtain ⟨v1, vs1, d1, ds1, p1, q1, rfl, rfl, rfl, h1, r1⟩ := trodAll_cons r0
  obtain ⟨v2, vs2, d2, ds2, p2, q2, rfl, rfl, rfl, h2, r2⟩ := trodAll_cons r1
  obtain ⟨rfl, rfl, rfl⟩ := trodAll_nil r2
  obtain rfl : args = #[v0, v1, v2] := by cases args; simp_all
  obtain ⟨rfl, rfl⟩ := trodVars_none hV
  have hsz : (DataW.weightsEach Try.prog ([56, 35, 52] ++ Rows.sysChecksSpec.plain.varTypes Try.prog) ([d0, d1, d2] ++ [])).all (· ≤ reachBytes) = true := by
    rw [Try.params9] at hsz1
    exact hsz1
  have k0 := h0
  have lt0 : ∀ x ∈ p0, x.block < W.heap.size := by obtain ⟨m, hm⟩ := k0; exact DataW.trod_lt m _ _ _ hm
  have R0 := reads_of_trod h0
  have k1 := h1
  have lt1 : ∀ x ∈ p1, x.block < W.heap.size := by obtain ⟨m, hm⟩ := k1; exact DataW.trod_lt m _ _ _ hm
  have R1 := reads_of_trod h1
  have k2 := h2
  have lt2 : ∀ x ∈ p2, x.block < W.heap.size := by obtain ⟨m, hm⟩ := k2; exact DataW.trod_lt m _ _ _ hm
  clear hA0 hval0
  refine Calls.mono (R := RetTrue W) ?_ fun e W' ⟨he, bel⟩ => ?_
  · obtain ⟨cf, rfl, hcf⟩ := cfg_arg (hval 0 56 v0 rfl rfl) R0
    obtain ⟨y1, rfl, hy1⟩ := sys_arg (hval 1 35 v1 rfl rfl) R1
    obtain ⟨x2, rfl, hx2, hf2, hl2⟩ := sysN_argL (hval 2 52 v2 rfl rfl) h2 (fun n hn => (by simpa using (List.all_eq_true.1 hsz n (DataW.weights_mem_each (j := 2) (t := 52) rfl rfl n hn))))
    refine (sysChecks_walk cf y1 x2 W _ hy1.1 hx2 hcf (fun _ h => h) hf2 hl2).mono ?_
    rintro e w3 ⟨rfl, hk⟩
    exact ⟨rfl, hk.below⟩
  subst he
  exact ⟨_, rfl, _, _, _, [], _, [], hW', trodAll_mk1 (shut_bool Try.underlying4 _), (trodAll_cons_mk (Below.trod laidOut (by kernel_rfl) (of_decide_eq_true (by kernel_rfl)) k0 bel lt0) (trodAll_cons_mk (Below.trod laidOut (by kernel_rfl) (of_decide_eq_true (by kernel_rfl)) k1 bel lt1) (trodAll_cons_mk (Below.trod laidOut (by kernel_rfl) (of_decide_eq_true (by kernel_rfl)) k2 bel lt2) trodAll_mk0))), rfl, bel.frame _, fun h => by cases h⟩

theorem over : Rows.sysChecksRow.holds Try.pinned (OpenSpec.ofChange Rows.sysChecksSpec) :=
  OpenClaim.holds_of_wide 9 Try.f9 rfl rfl rfl rfl rfl rfl rfl ⟨rfl, rfl, rfl, rfl, rfl⟩ rfl rfl rfl rfl rfl (by kernel_rfl) Try.func9 (by kernel_rfl)
    (of_decide_eq_true (by kernel_rfl)) (by unfold Func.isWrapper; first | (rw [if_pos (by decide +kernel)]; kernel_rfl) | (rw [if_neg (by decide +kernel)]; exact ⟨rfl, rfl⟩))
    (fun os started H enc _ => lifted os started H enc)
end Go.Proofs.Ytbigknmeooaidaa.sysChecks
namespace Go.Proofs.Ytbigknmeooaidaa
/-- The given statement. -/
theorem sysChecks_proved : Rows.SysChecksSaid := sysChecks.over
end Go.Proofs.Ytbigknmeooaidaa
