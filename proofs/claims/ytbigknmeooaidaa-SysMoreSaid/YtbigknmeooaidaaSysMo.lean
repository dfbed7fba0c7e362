/-
  SysMore: one that declares more may be, and meddles with no fewer: the walk.
-/
import Derived.Test.YtbigknmeooaidaaMk8
namespace Go.Proofs.Ytbigknmeooaidaa
open Go Go.RowKit
set_option linter.unusedVariables false
set_option linter.unusedSimpArgs false

/-- An allocation, its block and the world behind it being names. -/
theorem step_alloc {P : Program} {t : TypeId} {Z : Array Value} {o : Oper} {a : Act} {w : World} {K : Act → World → Prop} {Q : Exit → Act → World → Prop} (ho : o.op = .alloc t)
    (hrun : ∀ w, (Instr.alloc t true (.tuple #[])).run P w = .ok (.pointer (some ⟨w.heap.size, 0, none⟩)) (w.alloc (.cells Z t)))
    (h : ∀ g w', w.heap.size ≤ g → Keep w w' Nope → Blk w' g Z t → K (a.put o.dst (.pointer (some ⟨g, 0, none⟩))) w') : Oper.wp P o a w K Q := by
  unfold Oper.wp execOp
  simp only [ho, Sem.run_bind, hrun, Result.andThen_ok, Sem.run_pure]
  exact h _ _ (Nat.le_refl _) ((Keep.refl w Nope).alloc _) (Blk.new w Z t)
/-- A store of a whole row, the world behind it being a name. -/
theorem step_store {P : Program} {o : Oper} {a : Act} {w : World} {K : Act → World → Prop} {Q : Exit → Act → World → Prop} (ty : TypeId) (x y : Operand) (ho : o.op = .store ty x y)
    (g : Nat) (cells : Array Value) (hx : a.eval x = .pointer (some ⟨g, 0, none⟩)) (hy : a.eval y = .agg cells) (t : TypeId) (old : Array Value) (hg : Blk w g old t) (hi : (P.info? ty).map (·.size) = some cells.size)
    (hold : old.size = cells.size) (h1 : cells.all (·.oneCell') = true)
    (h : ∀ w', Keep w w' (fun z => z = g) → Blk w' g cells t → K (a.put o.dst undef) w') : Oper.wp P o a w K Q :=
  wp_store_row ty x y ho g cells hx hy t old hg hi hold h1 (h _ ((Keep.refl w (fun z => z = g)).setRow (.inl rfl) cells) (setRow_heap _ _ _ _ _ _ hg))
def sysZ : Array Value := #[.slice none 0 0, .slice none 0 0, .slice none 0 0, .slice none 0 0, .bool false, .slice none 0 0, .slice none 0 0, .slice none 0 0]
theorem alloc_sys : ∀ w, (Instr.alloc 35 true (.tuple #[])).run Try.prog w = .ok (.pointer (some ⟨w.heap.size, 0, none⟩)) (w.alloc (.cells sysZ 35)) := by
  intro w
  have hz := Try.zeroValue35 w
  simp [Instr.alloc, hz, go_sem]
  rfl

/-- The description of one component. -/
def dPH : DescV := ⟨2, 3, 0⟩
theorem slDesc : SlTy Try.prog 54 58 3 24 := SlTy.mk' (.agg #[.int .i64 0, .int .i64 0, .int .i64 0]) Try.underlying54 (by kernel_rfl) rfl (by decide)
def SysN.row (x : SysN) : Array Value := #[.slice x.pa x.plan.length x.pc, .slice x.ca x.code.length x.cc, .slice x.fa x.after.length x.fc, .int .i64 x.use] ++ x.raw.x.cells.toArray
theorem SysRd.keepT {S T : Nat → Prop} {w w' : World} {y : SysF} (h : SysRd S w y) (hk : Keep w w' T) (hd : ∀ z, S z → T z → False) : SysRd S w' y :=
  ⟨⟨h.use.r.keep hk hd, h.use.w'.keep hk hd, h.use.rr.keep hk hd, h.use.rw'.keep hk hd⟩, h.pl.keep hk hd, h.cd.keep hk hd⟩
theorem SysRd.tight {S : Nat → Prop} {w : World} {y : SysF} (h : SysRd S w y) : SysRd (fun z => S z ∧ z < w.heap.size) w y :=
  ⟨⟨Rd.tight h.use.r, Rd.tight h.use.w', Rd.tight h.use.rr, Rd.tight h.use.rw'⟩, Rd.tight h.pl, Rd.tight h.cd⟩
theorem SysRd.mono {S T : Nat → Prop} {w : World} {y : SysF} (h : SysRd S w y) (hT : ∀ z, S z → T z) : SysRd T w y :=
  ⟨⟨h.use.r.mono hT, h.use.w'.mono hT, h.use.rr.mono hT, h.use.rw'.mono hT⟩, h.pl.mono hT, h.cd.mono hT⟩
def sysC (x : SysX) : Array Value := #[x.r.v, x.w.v, x.rr.v, x.rw'.v, .bool x.al, x.pl.v, x.cd.v, x.af.v]
def shortL (x : SysX) : Prop := x.r.l.length ≤ 10000 ∧ x.w.l.length ≤ 10000 ∧ x.rr.l.length ≤ 10000 ∧ x.rw'.l.length ≤ 10000
/-- A made system is handed back. -/
def RetMk (w : World) (dl : List DescV) (S : Nat → Prop) (en : Ending) (w' : World) : Prop :=
  ∃ y : SysF, en = .returned y.x.val ∧ MadeOk dl 2 y ∧ shortL y.x ∧ SysRd (fun z => S z ∨ (w.heap.size ≤ z ∧ z < w'.heap.size)) w' y ∧ Keep w w' Nope
theorem make_two (cf : CfgV) (x : SysN) (w : World) (S : Nat → Prop) (h : SysNRd S w x) (hd : RdDescs S w (.slice cf.ca cf.dl.length cf.cc) cf.dl) (hnd : cf.dl.length ≤ 60) (hrn : cf.rn = 2) (hu : x.use = 0) (haf : x.after.length * 8 ≤ 140737488355328) :
    Calls Try.prog 26 #[cf.val, x.val] w (RetMk w cf.dl S) := by
  refine (law_make cf x w S h hd hnd (fun hh => by rw [hu] at hh; simp at hh) haf).mono ?_
  rintro e w' ⟨y, rfl, hm, hr, hk⟩
  rw [hrn] at hm
  rcases hm with hm | ⟨hh, _⟩
  · exact ⟨y, rfl, hm.ok (by rw [hu]; decide), hm.short, hr.1.tight.mono (fun z hz => hz.1.imp id (fun h => ⟨h, hz.2⟩)), hk⟩
  · rw [hu] at hh
    simp at hh
def LoopD2 (wc : World) (gl gw : Nat) (rv rrv plv cdv afv : Value) (N : Nat) (g : Nat) (v12 : Value) (wr : World) : Prop :=
  ∃ (i : Nat) (a : Option Addr) (c : Nat), g + i = N ∧ v12 = .int .i64 i ∧ St wc wr [blkA gl #[rv, .slice a i c, rrv, .slice (some ⟨gw, 0, none⟩) 2 2, .bool true, plv, cdv, afv] 35, slA 3 1 (.slice (some ⟨gw, 0, none⟩) 2 2) 2 (ints [0, 1]), slA 3 1 (.slice a i c) i (ints (rangeI i))]
def LoopD1 (w : World) (B : List Asr) (gc : Nat) (rsv : Value) (N : Nat) (g : Nat) (v8 : Value) (wr : World) : Prop :=
  ∃ (i : Nat) (a : Option Addr) (c : Nat), g + i = N ∧ v8 = .int .i64 i ∧ St w wr (B ++ [blkA gc #[.int .i64 5, .int .i64 5, .slice a i c, rsv] 56, slA 58 3 (.slice a i c) i ((List.replicate i dPH).flatMap DescV.cells)])

set_option maxRecDepth 5000 in
set_option maxHeartbeats 8000000 in
theorem sysMore_walk (n0 : Int) (x y : SysN) (w : World) (S : Nat → Prop) (hx : SysNRd S w x) (hy : SysNRd S w y) (hS : ∀ z, S z → z < w.heap.size) (hxa : x.after.length * 8 ≤ 140737488355328) (hya : y.after.length * 8 ≤ 140737488355328) :
    Calls Try.prog 8 #[.int .i64 n0, x.val, y.val] w (fun e w' => e = .returned (.bool true) ∧ Keep w w' Nope) := by
  obtain ⟨N, hN, hN1, hN8⟩ : ∃ N : Nat, bits .and .i64 n0 7 + 1 = (N : Int) ∧ 1 ≤ N ∧ N ≤ 8 := by
    rw [and_mask n0 3 7 (by decide) rfl]
    exact ⟨(n0 % 8).toNat + 1, by omega, by omega, by omega⟩
  have HX := Lib.hid hx
  have HY := Lib.hid hy
  clear hx hy
  unfold SysN.val
  go_enter Try.func8, Try.ntmps8
  simp only [SysX.cells, RowV.v, SlV.v, List.append_toArray, List.cons_append, List.nil_append]
  go_upto_region 4 with (fail)
  have h0 := ((((St.start w).box #[.slice x.pa x.plan.length x.pc, .slice x.ca x.code.length x.cc, .slice x.fa x.after.length x.fc, .int .i64 0, .slice x.raw.x.r.a x.raw.x.r.l.length x.raw.x.r.c, .slice x.raw.x.w.a x.raw.x.w.l.length x.raw.x.w.c, .slice x.raw.x.rr.a x.raw.x.rr.l.length x.raw.x.rr.c, .slice x.raw.x.rw'.a x.raw.x.rw'.l.length x.raw.x.rw'.c, .bool x.raw.x.al, .slice x.raw.x.pl.a x.raw.x.pl.n x.raw.x.pl.c, .slice x.raw.x.cd.a x.raw.x.cd.n x.raw.x.cd.c, .slice x.raw.x.af.a x.raw.x.af.l.length x.raw.x.af.c] 52).box #[.slice y.pa y.plan.length y.pc, .slice y.ca y.code.length y.cc, .slice y.fa y.after.length y.fc, .int .i64 0, .slice y.raw.x.r.a y.raw.x.r.l.length y.raw.x.r.c, .slice y.raw.x.w.a y.raw.x.w.l.length y.raw.x.w.c, .slice y.raw.x.rr.a y.raw.x.rr.l.length y.raw.x.rr.c, .slice y.raw.x.rw'.a y.raw.x.rw'.l.length y.raw.x.rw'.c, .bool y.raw.x.al, .slice y.raw.x.pl.a y.raw.x.pl.n y.raw.x.pl.c, .slice y.raw.x.cd.a y.raw.x.cd.n y.raw.x.cd.c, .slice y.raw.x.af.a y.raw.x.af.l.length y.raw.x.af.c] 52).box #[.int .i64 1, .int .i64 2] 2).box #[.int .i64 5, .int .i64 5, .slice none 0 0, .slice (some ⟨w.heap.size + 1 + 1, 0, none⟩) 2 2] 56
  simp only [World.size_alloc] at h0
  obtain ⟨w1, hw1⟩ : ∃ w1, w1 = (((w.alloc (.cells #[.slice x.pa x.plan.length x.pc, .slice x.ca x.code.length x.cc, .slice x.fa x.after.length x.fc, .int .i64 0, .slice x.raw.x.r.a x.raw.x.r.l.length x.raw.x.r.c, .slice x.raw.x.w.a x.raw.x.w.l.length x.raw.x.w.c, .slice x.raw.x.rr.a x.raw.x.rr.l.length x.raw.x.rr.c, .slice x.raw.x.rw'.a x.raw.x.rw'.l.length x.raw.x.rw'.c, .bool x.raw.x.al, .slice x.raw.x.pl.a x.raw.x.pl.n x.raw.x.pl.c, .slice x.raw.x.cd.a x.raw.x.cd.n x.raw.x.cd.c, .slice x.raw.x.af.a x.raw.x.af.l.length x.raw.x.af.c] 52)).alloc (.cells #[.slice y.pa y.plan.length y.pc, .slice y.ca y.code.length y.cc, .slice y.fa y.after.length y.fc, .int .i64 0, .slice y.raw.x.r.a y.raw.x.r.l.length y.raw.x.r.c, .slice y.raw.x.w.a y.raw.x.w.l.length y.raw.x.w.c, .slice y.raw.x.rr.a y.raw.x.rr.l.length y.raw.x.rr.c, .slice y.raw.x.rw'.a y.raw.x.rw'.l.length y.raw.x.rw'.c, .bool y.raw.x.al, .slice y.raw.x.pl.a y.raw.x.pl.n y.raw.x.pl.c, .slice y.raw.x.cd.a y.raw.x.cd.n y.raw.x.cd.c, .slice y.raw.x.af.a y.raw.x.af.l.length y.raw.x.af.c] 52)).alloc (.cells #[.int .i64 1, .int .i64 2] 2)).alloc (.cells #[.int .i64 5, .int .i64 5, .slice none 0 0, .slice (some ⟨w.heap.size + 1 + 1, 0, none⟩) 2 2] 56) := ⟨_, rfl⟩
  rw [← hw1] at h0 ⊢
  obtain ⟨g0, hg0⟩ : ∃ g, g = w.heap.size := ⟨_, rfl⟩
  rw [← hg0] at h0 ⊢
  obtain ⟨g1, hg1⟩ : ∃ g, g = g0 + 1 := ⟨_, rfl⟩
  rw [← hg1] at h0 ⊢
  obtain ⟨g2, hg2⟩ : ∃ g, g = g1 + 1 := ⟨_, rfl⟩
  rw [← hg2] at h0 ⊢
  obtain ⟨g3, hg3⟩ : ∃ g, g = g2 + 1 := ⟨_, rfl⟩
  rw [← hg3] at h0 ⊢
  have h0' := h0.add (Keep.refl _ _) (A := slA 58 3 (.slice none 0 0) 0 ((List.replicate 0 dPH).flatMap DescV.cells)) (Own.nil _ _ _ _)
  have H0 := Lib.hid (show St w w1 ([blkA g0 #[.slice x.pa x.plan.length x.pc, .slice x.ca x.code.length x.cc, .slice x.fa x.after.length x.fc, .int .i64 0, .slice x.raw.x.r.a x.raw.x.r.l.length x.raw.x.r.c, .slice x.raw.x.w.a x.raw.x.w.l.length x.raw.x.w.c, .slice x.raw.x.rr.a x.raw.x.rr.l.length x.raw.x.rr.c, .slice x.raw.x.rw'.a x.raw.x.rw'.l.length x.raw.x.rw'.c, .bool x.raw.x.al, .slice x.raw.x.pl.a x.raw.x.pl.n x.raw.x.pl.c, .slice x.raw.x.cd.a x.raw.x.cd.n x.raw.x.cd.c, .slice x.raw.x.af.a x.raw.x.af.l.length x.raw.x.af.c] 52, blkA g1 #[.slice y.pa y.plan.length y.pc, .slice y.ca y.code.length y.cc, .slice y.fa y.after.length y.fc, .int .i64 0, .slice y.raw.x.r.a y.raw.x.r.l.length y.raw.x.r.c, .slice y.raw.x.w.a y.raw.x.w.l.length y.raw.x.w.c, .slice y.raw.x.rr.a y.raw.x.rr.l.length y.raw.x.rr.c, .slice y.raw.x.rw'.a y.raw.x.rw'.l.length y.raw.x.rw'.c, .bool y.raw.x.al, .slice y.raw.x.pl.a y.raw.x.pl.n y.raw.x.pl.c, .slice y.raw.x.cd.a y.raw.x.cd.n y.raw.x.cd.c, .slice y.raw.x.af.a y.raw.x.af.l.length y.raw.x.af.c] 52, blkA g2 #[.int .i64 1, .int .i64 2] 2] ++ [blkA g3 #[.int .i64 5, .int .i64 5, .slice none 0 0, .slice (some ⟨g2, 0, none⟩) 2 2] 56, slA 58 3 (.slice none 0 0) 0 ((List.replicate 0 dPH).flatMap DescV.cells)]) from h0')
  have HGS := Lib.hid (And.intro hg0 (And.intro hg1 (And.intro hg2 hg3)))
  clear h0 h0' hw1 hg0 hg1 hg2 hg3 hN
  go_wp2_with fail
  go_loopg [8] N (fun g v8 wr => LoopD1 w [blkA g0 #[.slice x.pa x.plan.length x.pc, .slice x.ca x.code.length x.cc, .slice x.fa x.after.length x.fc, .int .i64 0, .slice x.raw.x.r.a x.raw.x.r.l.length x.raw.x.r.c, .slice x.raw.x.w.a x.raw.x.w.l.length x.raw.x.w.c, .slice x.raw.x.rr.a x.raw.x.rr.l.length x.raw.x.rr.c, .slice x.raw.x.rw'.a x.raw.x.rw'.l.length x.raw.x.rw'.c, .bool x.raw.x.al, .slice x.raw.x.pl.a x.raw.x.pl.n x.raw.x.pl.c, .slice x.raw.x.cd.a x.raw.x.cd.n x.raw.x.cd.c, .slice x.raw.x.af.a x.raw.x.af.l.length x.raw.x.af.c] 52, blkA g1 #[.slice y.pa y.plan.length y.pc, .slice y.ca y.code.length y.cc, .slice y.fa y.after.length y.fc, .int .i64 0, .slice y.raw.x.r.a y.raw.x.r.l.length y.raw.x.r.c, .slice y.raw.x.w.a y.raw.x.w.l.length y.raw.x.w.c, .slice y.raw.x.rr.a y.raw.x.rr.l.length y.raw.x.rr.c, .slice y.raw.x.rw'.a y.raw.x.rw'.l.length y.raw.x.rw'.c, .bool y.raw.x.al, .slice y.raw.x.pl.a y.raw.x.pl.n y.raw.x.pl.c, .slice y.raw.x.cd.a y.raw.x.cd.n y.raw.x.cd.c, .slice y.raw.x.af.a y.raw.x.af.l.length y.raw.x.af.c] 52, blkA g2 #[.int .i64 1, .int .i64 2] 2] g3 (.slice (some ⟨g2, 0, none⟩) 2 2) N g v8 wr)
  case atStart => exact ⟨0, none, 0, by omega, rfl, H0.out⟩
  case round =>
    obtain ⟨i, a, c, hg, rfl, hst⟩ := hrel
    clear H0
    have HG := Lib.hid hg
    have hiN : i ≤ N := by omega
    have H1 := Lib.hid (show St w wr [blkA g0 #[.slice x.pa x.plan.length x.pc, .slice x.ca x.code.length x.cc, .slice x.fa x.after.length x.fc, .int .i64 0, .slice x.raw.x.r.a x.raw.x.r.l.length x.raw.x.r.c, .slice x.raw.x.w.a x.raw.x.w.l.length x.raw.x.w.c, .slice x.raw.x.rr.a x.raw.x.rr.l.length x.raw.x.rr.c, .slice x.raw.x.rw'.a x.raw.x.rw'.l.length x.raw.x.rw'.c, .bool x.raw.x.al, .slice x.raw.x.pl.a x.raw.x.pl.n x.raw.x.pl.c, .slice x.raw.x.cd.a x.raw.x.cd.n x.raw.x.cd.c, .slice x.raw.x.af.a x.raw.x.af.l.length x.raw.x.af.c] 52, blkA g1 #[.slice y.pa y.plan.length y.pc, .slice y.ca y.code.length y.cc, .slice y.fa y.after.length y.fc, .int .i64 0, .slice y.raw.x.r.a y.raw.x.r.l.length y.raw.x.r.c, .slice y.raw.x.w.a y.raw.x.w.l.length y.raw.x.w.c, .slice y.raw.x.rr.a y.raw.x.rr.l.length y.raw.x.rr.c, .slice y.raw.x.rw'.a y.raw.x.rw'.l.length y.raw.x.rw'.c, .bool y.raw.x.al, .slice y.raw.x.pl.a y.raw.x.pl.n y.raw.x.pl.c, .slice y.raw.x.cd.a y.raw.x.cd.n y.raw.x.cd.c, .slice y.raw.x.af.a y.raw.x.af.l.length y.raw.x.af.c] 52, blkA g2 #[.int .i64 1, .int .i64 2] 2, blkA g3 #[.int .i64 5, .int .i64 5, .slice a i c, .slice (some ⟨g2, 0, none⟩) 2 2] 56, slA 58 3 (.slice a i c) i ((List.replicate i dPH).flatMap DescV.cells)] from hst)
    clear hg hst
    by_cases hlt : i < N
    · have hI : (i : Int) < N := by omega
      have hId : decide ((i : Int) < N) = true := decide_eq_true hI
      have s2 := (H1.out.blk 3 rfl).cell 2
      simp at s2
      obtain ⟨G, hown, _, hup, _⟩ := H1.out.opens 4 rfl
      have HOwn := Lib.hid (show Own G wr 58 3 (.slice a i c) i ((List.replicate i dPH).flatMap DescV.cells) from hown)
      have HUP := Lib.hid hup
      clear hown hup
      go_wp2_with (at_builtin; go_loud (refine wpList_app (P := Try.prog) slDesc rfl _ _ rfl (S := G) (S2 := fun z => z = wr.heap.size) (n := i) (xs := (List.replicate i dPH).flatMap DescV.cells) (m := 1) rfl rfl ?_ (Own.lit (S := fun z => z = wr.heap.size) wr 58 3 1 _ (by decide) rfl rfl).rd rfl (by intro u hu; simp at hu; rcases hu with rfl | rfl | rfl <;> rfl) (by omega) (by unfold maxLen; omega) ?_; (· exact HOwn.out.keep (T := Nope) ((Keep.refl wr Nope).alloc _) (fun _ _ f => f)); rintro a' k' c' w5 happ; obtain ⟨z1, z2⟩ := app_up (wr := wr) ((Keep.refl wr Nope).alloc _) happ; obtain rfl := happ.num; have h5 := HUP.out w5 _ z1 z2; have H5 := Lib.hid (show St w w5 [blkA g0 #[.slice x.pa x.plan.length x.pc, .slice x.ca x.code.length x.cc, .slice x.fa x.after.length x.fc, .int .i64 0, .slice x.raw.x.r.a x.raw.x.r.l.length x.raw.x.r.c, .slice x.raw.x.w.a x.raw.x.w.l.length x.raw.x.w.c, .slice x.raw.x.rr.a x.raw.x.rr.l.length x.raw.x.rr.c, .slice x.raw.x.rw'.a x.raw.x.rw'.l.length x.raw.x.rw'.c, .bool x.raw.x.al, .slice x.raw.x.pl.a x.raw.x.pl.n x.raw.x.pl.c, .slice x.raw.x.cd.a x.raw.x.cd.n x.raw.x.cd.c, .slice x.raw.x.af.a x.raw.x.af.l.length x.raw.x.af.c] 52, blkA g1 #[.slice y.pa y.plan.length y.pc, .slice y.ca y.code.length y.cc, .slice y.fa y.after.length y.fc, .int .i64 0, .slice y.raw.x.r.a y.raw.x.r.l.length y.raw.x.r.c, .slice y.raw.x.w.a y.raw.x.w.l.length y.raw.x.w.c, .slice y.raw.x.rr.a y.raw.x.rr.l.length y.raw.x.rr.c, .slice y.raw.x.rw'.a y.raw.x.rw'.l.length y.raw.x.rw'.c, .bool y.raw.x.al, .slice y.raw.x.pl.a y.raw.x.pl.n y.raw.x.pl.c, .slice y.raw.x.cd.a y.raw.x.cd.n y.raw.x.cd.c, .slice y.raw.x.af.a y.raw.x.af.l.length y.raw.x.af.c] 52, blkA g2 #[.int .i64 1, .int .i64 2] 2, blkA g3 #[.int .i64 5, .int .i64 5, .slice a i c, .slice (some ⟨g2, 0, none⟩) 2 2] 56, slA 58 3 (.slice a' (i + 1) c') (i + 1) ((List.replicate (i + 1) dPH).flatMap DescV.cells)] from (by have h6 := h5; rw [show List.replicate (i + 1) dPH = List.replicate i dPH ++ [dPH] from List.replicate_succ', List.flatMap_append]; exact h6)); have q2 := (H5.out.blk 3 rfl).cell 2; have f2 := (H5.out.blk 3 rfl).frozen 2; simp at q2; have H6 := Lib.hid (H5.out.write 3 rfl 2 (.slice a' (i + 1) c')); clear happ z1 z2 h5 s2))
      go_roundg (N - (i + 1))
      case measure => have := HG.out; omega
      case rel => exact ⟨i + 1, a', c', by have := HG.out; omega, by go_num, H6.out⟩
    · obtain rfl : N = i := by omega
      go_upto_region 8 with (fail)
      have hb3 := H1.out.blk 3 rfl
      have hb0 := H1.out.blk 0 rfl
      have hb1 := H1.out.blk 1 rfl
      have HCL := Lib.hid (fun wq (hk : Keep wr wq Nope) => (show wq.cell? ⟨g3, 0, none⟩ = some (.int .i64 5) ∧ wq.cell? ⟨g3, 1, none⟩ = some (.int .i64 5) ∧ wq.cell? ⟨g3, 2, none⟩ = some (.slice a N c) ∧ wq.cell? ⟨g3, 3, none⟩ = some (.slice (some ⟨g2, 0, none⟩) 2 2) ∧ wq.cell? ⟨g0, 0, none⟩ = some (.slice x.pa x.plan.length x.pc) ∧ wq.cell? ⟨g0, 1, none⟩ = some (.slice x.ca x.code.length x.cc) ∧ wq.cell? ⟨g0, 2, none⟩ = some (.slice x.fa x.after.length x.fc) ∧ wq.cell? ⟨g0, 3, none⟩ = some (.int .i64 0) ∧ wq.cell? ⟨g0, 4, none⟩ = some (.slice x.raw.x.r.a x.raw.x.r.l.length x.raw.x.r.c) ∧ wq.cell? ⟨g0, 5, none⟩ = some (.slice x.raw.x.w.a x.raw.x.w.l.length x.raw.x.w.c) ∧ wq.cell? ⟨g0, 6, none⟩ = some (.slice x.raw.x.rr.a x.raw.x.rr.l.length x.raw.x.rr.c) ∧ wq.cell? ⟨g0, 7, none⟩ = some (.slice x.raw.x.rw'.a x.raw.x.rw'.l.length x.raw.x.rw'.c) ∧ wq.cell? ⟨g0, 8, none⟩ = some (.bool x.raw.x.al) ∧ wq.cell? ⟨g0, 9, none⟩ = some (.slice x.raw.x.pl.a x.raw.x.pl.n x.raw.x.pl.c) ∧ wq.cell? ⟨g0, 10, none⟩ = some (.slice x.raw.x.cd.a x.raw.x.cd.n x.raw.x.cd.c) ∧ wq.cell? ⟨g0, 11, none⟩ = some (.slice x.raw.x.af.a x.raw.x.af.l.length x.raw.x.af.c) ∧ wq.cell? ⟨g1, 0, none⟩ = some (.slice y.pa y.plan.length y.pc) ∧ wq.cell? ⟨g1, 1, none⟩ = some (.slice y.ca y.code.length y.cc) ∧ wq.cell? ⟨g1, 2, none⟩ = some (.slice y.fa y.after.length y.fc) ∧ wq.cell? ⟨g1, 3, none⟩ = some (.int .i64 0) ∧ wq.cell? ⟨g1, 4, none⟩ = some (.slice y.raw.x.r.a y.raw.x.r.l.length y.raw.x.r.c) ∧ wq.cell? ⟨g1, 5, none⟩ = some (.slice y.raw.x.w.a y.raw.x.w.l.length y.raw.x.w.c) ∧ wq.cell? ⟨g1, 6, none⟩ = some (.slice y.raw.x.rr.a y.raw.x.rr.l.length y.raw.x.rr.c) ∧ wq.cell? ⟨g1, 7, none⟩ = some (.slice y.raw.x.rw'.a y.raw.x.rw'.l.length y.raw.x.rw'.c) ∧ wq.cell? ⟨g1, 8, none⟩ = some (.bool y.raw.x.al) ∧ wq.cell? ⟨g1, 9, none⟩ = some (.slice y.raw.x.pl.a y.raw.x.pl.n y.raw.x.pl.c) ∧ wq.cell? ⟨g1, 10, none⟩ = some (.slice y.raw.x.cd.a y.raw.x.cd.n y.raw.x.cd.c) ∧ wq.cell? ⟨g1, 11, none⟩ = some (.slice y.raw.x.af.a y.raw.x.af.l.length y.raw.x.af.c) from ⟨(by rw [((hb3).keep hk (fun f => f)).cell]; rfl), (by rw [((hb3).keep hk (fun f => f)).cell]; rfl), (by rw [((hb3).keep hk (fun f => f)).cell]; rfl), (by rw [((hb3).keep hk (fun f => f)).cell]; rfl), (by rw [((hb0).keep hk (fun f => f)).cell]; rfl), (by rw [((hb0).keep hk (fun f => f)).cell]; rfl), (by rw [((hb0).keep hk (fun f => f)).cell]; rfl), (by rw [((hb0).keep hk (fun f => f)).cell]; rfl), (by rw [((hb0).keep hk (fun f => f)).cell]; rfl), (by rw [((hb0).keep hk (fun f => f)).cell]; rfl), (by rw [((hb0).keep hk (fun f => f)).cell]; rfl), (by rw [((hb0).keep hk (fun f => f)).cell]; rfl), (by rw [((hb0).keep hk (fun f => f)).cell]; rfl), (by rw [((hb0).keep hk (fun f => f)).cell]; rfl), (by rw [((hb0).keep hk (fun f => f)).cell]; rfl), (by rw [((hb0).keep hk (fun f => f)).cell]; rfl), (by rw [((hb1).keep hk (fun f => f)).cell]; rfl), (by rw [((hb1).keep hk (fun f => f)).cell]; rfl), (by rw [((hb1).keep hk (fun f => f)).cell]; rfl), (by rw [((hb1).keep hk (fun f => f)).cell]; rfl), (by rw [((hb1).keep hk (fun f => f)).cell]; rfl), (by rw [((hb1).keep hk (fun f => f)).cell]; rfl), (by rw [((hb1).keep hk (fun f => f)).cell]; rfl), (by rw [((hb1).keep hk (fun f => f)).cell]; rfl), (by rw [((hb1).keep hk (fun f => f)).cell]; rfl), (by rw [((hb1).keep hk (fun f => f)).cell]; rfl), (by rw [((hb1).keep hk (fun f => f)).cell]; rfl), (by rw [((hb1).keep hk (fun f => f)).cell]; rfl)⟩))
      have HKW := Lib.hid (Keep.ofSt H1.out)
      obtain ⟨Gd, _, hrd, hGd⟩ := H1.out.rd 4 rfl
      have HRD := Lib.hid (show RdDescs Gd wr (.slice a (List.replicate N dPH).length c) (List.replicate N dPH) from by unfold RdDescs; rw [List.length_replicate]; exact hrd)
      have HMX := Lib.hid (fun wq (hk : Keep wr wq Nope) => (show Calls Try.prog 26 #[.agg #[.int .i64 5, .int .i64 5, .slice a N c, .slice (some ⟨g2, 0, none⟩) 2 2], .agg #[.slice x.pa x.plan.length x.pc, .slice x.ca x.code.length x.cc, .slice x.fa x.after.length x.fc, .int .i64 0, .slice x.raw.x.r.a x.raw.x.r.l.length x.raw.x.r.c, .slice x.raw.x.w.a x.raw.x.w.l.length x.raw.x.w.c, .slice x.raw.x.rr.a x.raw.x.rr.l.length x.raw.x.rr.c, .slice x.raw.x.rw'.a x.raw.x.rw'.l.length x.raw.x.rw'.c, .bool x.raw.x.al, .slice x.raw.x.pl.a x.raw.x.pl.n x.raw.x.pl.c, .slice x.raw.x.cd.a x.raw.x.cd.n x.raw.x.cd.c, .slice x.raw.x.af.a x.raw.x.af.l.length x.raw.x.af.c]] wq (RetMk wq (List.replicate N dPH) (fun z => S z ∨ Gd z)) from by
        have h := make_two ⟨5, 5, a, c, (List.replicate N dPH), some ⟨g2, 0, none⟩, 2, 2⟩ ⟨x.pa, x.pc, x.plan, x.ca, x.cc, x.code, x.fa, x.fc, x.after, 0, x.raw⟩ wq (fun z => S z ∨ Gd z) ⟨(HX.out.plan.keep (HKW.out.trans hk (fun _ f => f.elim)) (fun _ _ f => f)).mono (fun _ h => .inl h), (HX.out.code.keep (HKW.out.trans hk (fun _ f => f.elim)) (fun _ _ f => f)).mono (fun _ h => .inl h), (HX.out.after.keep (HKW.out.trans hk (fun _ f => f.elim)) (fun _ _ f => f)).mono (fun _ h => .inl h), ⟨(HX.out.raw.1.keep0 (HKW.out.trans hk (fun _ f => f.elim))).mono (fun _ h => .inl h), (HX.out.raw.2.keep (HKW.out.trans hk (fun _ f => f.elim)) (fun _ _ f => f)).mono (fun _ h => .inl h)⟩⟩ ((HRD.out.keep hk (fun _ _ f => f)).mono (fun _ h => .inr h)) (by simp; omega) rfl rfl hxa
        unfold CfgV.val SysN.val at h
        simp only [SysX.cells, RowV.v, SlV.v, List.append_toArray, List.cons_append, List.nil_append, List.length_replicate] at h
        exact h))
      have HMY := Lib.hid (fun wq (hk : Keep wr wq Nope) => (show Calls Try.prog 26 #[.agg #[.int .i64 5, .int .i64 5, .slice a N c, .slice (some ⟨g2, 0, none⟩) 2 2], .agg #[.slice y.pa y.plan.length y.pc, .slice y.ca y.code.length y.cc, .slice y.fa y.after.length y.fc, .int .i64 0, .slice y.raw.x.r.a y.raw.x.r.l.length y.raw.x.r.c, .slice y.raw.x.w.a y.raw.x.w.l.length y.raw.x.w.c, .slice y.raw.x.rr.a y.raw.x.rr.l.length y.raw.x.rr.c, .slice y.raw.x.rw'.a y.raw.x.rw'.l.length y.raw.x.rw'.c, .bool y.raw.x.al, .slice y.raw.x.pl.a y.raw.x.pl.n y.raw.x.pl.c, .slice y.raw.x.cd.a y.raw.x.cd.n y.raw.x.cd.c, .slice y.raw.x.af.a y.raw.x.af.l.length y.raw.x.af.c]] wq (RetMk wq (List.replicate N dPH) (fun z => S z ∨ Gd z)) from by
        have h := make_two ⟨5, 5, a, c, (List.replicate N dPH), some ⟨g2, 0, none⟩, 2, 2⟩ ⟨y.pa, y.pc, y.plan, y.ca, y.cc, y.code, y.fa, y.fc, y.after, 0, y.raw⟩ wq (fun z => S z ∨ Gd z) ⟨(HY.out.plan.keep (HKW.out.trans hk (fun _ f => f.elim)) (fun _ _ f => f)).mono (fun _ h => .inl h), (HY.out.code.keep (HKW.out.trans hk (fun _ f => f.elim)) (fun _ _ f => f)).mono (fun _ h => .inl h), (HY.out.after.keep (HKW.out.trans hk (fun _ f => f.elim)) (fun _ _ f => f)).mono (fun _ h => .inl h), ⟨(HY.out.raw.1.keep0 (HKW.out.trans hk (fun _ f => f.elim))).mono (fun _ h => .inl h), (HY.out.raw.2.keep (HKW.out.trans hk (fun _ f => f.elim)) (fun _ _ f => f)).mono (fun _ h => .inl h)⟩⟩ ((HRD.out.keep hk (fun _ _ f => f)).mono (fun _ h => .inr h)) (by simp; omega) rfl rfl hya
        unfold CfgV.val SysN.val at h
        simp only [SysX.cells, RowV.v, SlV.v, List.append_toArray, List.cons_append, List.nil_append, List.length_replicate] at h
        exact h))
      have HK := Lib.hid ((Keep.refl wr Nope).drew)
      have hwr := (Keep.ofSt H1.out).size
      have HSG := Lib.hid (show ∀ z, S z ∨ Gd z → z < wr.heap.size from fun z hz => hz.elim (fun h => by have := hS z h; omega) (fun h => (hGd z h).2))
      clear hb3 hb0 hb1 hrd hGd
      have hwd : wr.drew.heap.size = wr.heap.size := rfl
      go_cut [9, 10] (fun v9 v10 wz => ∃ (ga gb : Nat) (ya yb : SysF), v9 = .pointer (some ⟨ga, 0, none⟩) ∧ v10 = .pointer (some ⟨gb, 0, none⟩) ∧ Keep wr wz Nope ∧ Blk wz ga (sysC ya.x) 35 ∧ Blk wz gb (sysC yb.x) 35 ∧ (MadeOk (List.replicate N dPH) 2 ya ∧ shortL ya.x) ∧ (MadeOk (List.replicate N dPH) 2 yb ∧ shortL yb.x) ∧ SysRd (fun z => z < wz.heap.size) wz ya ∧ SysRd (fun z => z < wz.heap.size) wz yb)
      case first =>
        refine wp_region_held_drew (S := fun w' => w'.cell? ⟨g3, 0, none⟩ = some (.int .i64 5) ∧ w'.cell? ⟨g3, 1, none⟩ = some (.int .i64 5) ∧ w'.cell? ⟨g3, 2, none⟩ = some (.slice a N c) ∧ w'.cell? ⟨g3, 3, none⟩ = some (.slice (some ⟨g2, 0, none⟩) 2 2) ∧ w'.cell? ⟨g0, 0, none⟩ = some (.slice x.pa x.plan.length x.pc) ∧ w'.cell? ⟨g0, 1, none⟩ = some (.slice x.ca x.code.length x.cc) ∧ w'.cell? ⟨g0, 2, none⟩ = some (.slice x.fa x.after.length x.fc) ∧ w'.cell? ⟨g0, 3, none⟩ = some (.int .i64 0) ∧ w'.cell? ⟨g0, 4, none⟩ = some (.slice x.raw.x.r.a x.raw.x.r.l.length x.raw.x.r.c) ∧ w'.cell? ⟨g0, 5, none⟩ = some (.slice x.raw.x.w.a x.raw.x.w.l.length x.raw.x.w.c) ∧ w'.cell? ⟨g0, 6, none⟩ = some (.slice x.raw.x.rr.a x.raw.x.rr.l.length x.raw.x.rr.c) ∧ w'.cell? ⟨g0, 7, none⟩ = some (.slice x.raw.x.rw'.a x.raw.x.rw'.l.length x.raw.x.rw'.c) ∧ w'.cell? ⟨g0, 8, none⟩ = some (.bool x.raw.x.al) ∧ w'.cell? ⟨g0, 9, none⟩ = some (.slice x.raw.x.pl.a x.raw.x.pl.n x.raw.x.pl.c) ∧ w'.cell? ⟨g0, 10, none⟩ = some (.slice x.raw.x.cd.a x.raw.x.cd.n x.raw.x.cd.c) ∧ w'.cell? ⟨g0, 11, none⟩ = some (.slice x.raw.x.af.a x.raw.x.af.l.length x.raw.x.af.c) ∧ w'.cell? ⟨g1, 0, none⟩ = some (.slice y.pa y.plan.length y.pc) ∧ w'.cell? ⟨g1, 1, none⟩ = some (.slice y.ca y.code.length y.cc) ∧ w'.cell? ⟨g1, 2, none⟩ = some (.slice y.fa y.after.length y.fc) ∧ w'.cell? ⟨g1, 3, none⟩ = some (.int .i64 0) ∧ w'.cell? ⟨g1, 4, none⟩ = some (.slice y.raw.x.r.a y.raw.x.r.l.length y.raw.x.r.c) ∧ w'.cell? ⟨g1, 5, none⟩ = some (.slice y.raw.x.w.a y.raw.x.w.l.length y.raw.x.w.c) ∧ w'.cell? ⟨g1, 6, none⟩ = some (.slice y.raw.x.rr.a y.raw.x.rr.l.length y.raw.x.rr.c) ∧ w'.cell? ⟨g1, 7, none⟩ = some (.slice y.raw.x.rw'.a y.raw.x.rw'.l.length y.raw.x.rw'.c) ∧ w'.cell? ⟨g1, 8, none⟩ = some (.bool y.raw.x.al) ∧ w'.cell? ⟨g1, 9, none⟩ = some (.slice y.raw.x.pl.a y.raw.x.pl.n y.raw.x.pl.c) ∧ w'.cell? ⟨g1, 10, none⟩ = some (.slice y.raw.x.cd.a y.raw.x.cd.n y.raw.x.cd.c) ∧ w'.cell? ⟨g1, 11, none⟩ = some (.slice y.raw.x.af.a y.raw.x.af.l.length y.raw.x.af.c)) (by kernel_rfl) ?_ (fun hHeld => ?_)
        · (try dsimp only); exact HCL.out _ HK.out
        refine wpAnyH_take (i := 0) (oi := ?_) (v := ?_) ?_ ?_ ?_ ?_ ?_ ?_ ?_ ?_
        rotate_left 2
        · simp only [List.getElem?_toArray, List.getElem?_cons_succ, List.getElem?_cons_zero]; exact rfl
        · kernel_rfl
        · kernel_rfl
        · kernel_rfl
        · first | exact fun _ _ _ h => h | exact fun _ _ _ h => (HPan.out _ _ _ h).elim
        · (refine Or.inl ⟨by rfl, ?_⟩; (intro w hSw; (try dsimp only at hSw); go_simp) <;> with_reducible rfl)
        · assumption
        simp only [Act.put, List.setIfInBounds_toArray, List.set_cons_zero, List.set_cons_succ]
        refine wpAnyH_take (i := 1) (oi := ?_) (v := ?_) ?_ ?_ ?_ ?_ ?_ ?_ ?_ ?_
        rotate_left 2
        · simp only [List.getElem?_toArray, List.getElem?_cons_succ, List.getElem?_cons_zero]; exact rfl
        · kernel_rfl
        · kernel_rfl
        · kernel_rfl
        · first | exact fun _ _ _ h => h | exact fun _ _ _ h => (HPan.out _ _ _ h).elim
        · (refine Or.inl ⟨by rfl, ?_⟩; (intro w hSw; (try dsimp only at hSw); go_simp) <;> with_reducible rfl)
        · assumption
        simp only [Act.put, List.setIfInBounds_toArray, List.set_cons_zero, List.set_cons_succ]
        refine wpAnyH_take (i := 3) (oi := ?_) (v := ?_) ?_ ?_ ?_ ?_ ?_ ?_ ?_ ?_
        rotate_left 2
        · simp only [List.getElem?_toArray, List.getElem?_cons_succ, List.getElem?_cons_zero]; exact rfl
        · kernel_rfl
        · kernel_rfl
        · kernel_rfl
        · first | exact fun _ _ _ h => h | exact fun _ _ _ h => (HPan.out _ _ _ h).elim
        · (refine Or.inl ⟨by rfl, ?_⟩; (intro w hSw; (try dsimp only at hSw); go_simp) <;> with_reducible rfl)
        · assumption
        simp only [Act.put, List.setIfInBounds_toArray, List.set_cons_zero, List.set_cons_succ]
        refine wpAnyH_take (i := 4) (oi := ?_) (v := ?_) ?_ ?_ ?_ ?_ ?_ ?_ ?_ ?_
        rotate_left 2
        · simp only [List.getElem?_toArray, List.getElem?_cons_succ, List.getElem?_cons_zero]; exact rfl
        · kernel_rfl
        · kernel_rfl
        · kernel_rfl
        · first | exact fun _ _ _ h => h | exact fun _ _ _ h => (HPan.out _ _ _ h).elim
        · (refine Or.inl ⟨by rfl, ?_⟩; (intro w hSw; (try dsimp only at hSw); go_simp) <;> with_reducible rfl)
        · assumption
        simp only [Act.put, List.setIfInBounds_toArray, List.set_cons_zero, List.set_cons_succ]
        refine wpAnyH_ready (rs := [2, 6, 7]) (by kernel_rfl) (by simp) ?_
        refine AllReadyH.cons rfl (fun K hK => ?_) (AllReadyH.cons rfl (fun K hK => ?_) (AllReadyH.cons rfl (fun K hK => ?_) (AllReadyH.nil)))
        · skip
          go_simp
          go_wp2_with ((go_at_call 26; go_loud (refine (HMX.out _ HK.out).mono ?_; rintro e wA ⟨ya, rfl, hma, hsa, hra, hk⟩; have hsz := hk.size; (try have HB9 := Lib.hid (HB9.out.keep hk (fun f => f))); (try have HB10 := Lib.hid (HB10.out.keep hk (fun f => f))); (try have YA := Lib.hid (YA.out.keepT hk (fun _ _ f => f))); (try have YB := Lib.hid (YB.out.keepT hk (fun _ _ f => f))); have YA := Lib.hid hra; have HMA := Lib.hid (And.intro hma hsa); have HK := Lib.hid (HK.out.trans hk (fun _ f => f.elim)); clear hma hsa hra hk)))
          refine hK.out _ _ ?_ (fun hHeld => ?_)
          · (try dsimp only); exact HCL.out _ HK.out
          clear hK K
          refine wpAnyH_ready (rs := [5, 6, 7]) (by kernel_rfl) (by simp) ?_
          refine AllReadyH.cons rfl (fun K hK => ?_) (AllReadyH.cons rfl (fun K hK => ?_) (AllReadyH.cons rfl (fun K hK => ?_) (AllReadyH.nil)))
          · skip
            go_simp
            go_wp2_with ((go_at_call 26; go_loud (refine (HMY.out _ HK.out).mono ?_; rintro e wB ⟨yb, rfl, hma, hsa, hra, hk⟩; have hsz := hk.size; (try have HB9 := Lib.hid (HB9.out.keep hk (fun f => f))); (try have HB10 := Lib.hid (HB10.out.keep hk (fun f => f))); (try have YA := Lib.hid (YA.out.keepT hk (fun _ _ f => f))); (try have YB := Lib.hid (YB.out.keepT hk (fun _ _ f => f))); have YB := Lib.hid hra; have HMB := Lib.hid (And.intro hma hsa); have HK := Lib.hid (HK.out.trans hk (fun _ f => f.elim)); clear hma hsa hra hk)))
            refine hK.out _ _ ?_ (fun hHeld => ?_)
            · (try dsimp only); exact HCL.out _ HK.out
            clear hK K
            refine wpAnyH_ready (rs := [6, 7]) (by kernel_rfl) (by simp) ?_
            refine AllReadyH.cons rfl (fun K hK => ?_) (AllReadyH.cons rfl (fun K hK => ?_) (AllReadyH.nil))
            · skip
              rw [if_pos (by rfl)]
              (go_loud (refine step_alloc rfl alloc_sys ?_; intro g9 wa6 hga hk hb; have hsz := hk.size; (try have HB9 := Lib.hid (HB9.out.keep hk (fun f => f))); (try have HB10 := Lib.hid (HB10.out.keep hk (fun f => f))); (try have YA := Lib.hid (YA.out.keepT hk (fun _ _ f => f))); (try have YB := Lib.hid (YB.out.keepT hk (fun _ _ f => f))); have hgl := hb.lt; have HB9 := Lib.hid hb; have HK := Lib.hid (HK.out.trans hk (fun _ f => f.elim)); clear hk hb))
              refine hK.out _ _ ?_ (fun hHeld => ?_)
              · (try dsimp only); exact HCL.out _ HK.out
              clear hK K
              refine wpAnyH_ready (rs := [7]) (by kernel_rfl) (by simp) ?_
              refine AllReadyH.cons rfl (fun K hK => ?_) (AllReadyH.nil)
              rw [if_pos (by rfl)]
              (go_loud (refine step_alloc rfl alloc_sys ?_; intro g10 wa7 hga hk hb; have hsz := hk.size; (try have HB9 := Lib.hid (HB9.out.keep hk (fun f => f))); (try have HB10 := Lib.hid (HB10.out.keep hk (fun f => f))); (try have YA := Lib.hid (YA.out.keepT hk (fun _ _ f => f))); (try have YB := Lib.hid (YB.out.keepT hk (fun _ _ f => f))); have hgl := hb.lt; have HB10 := Lib.hid hb; have HK := Lib.hid (HK.out.trans hk (fun _ f => f.elim)); clear hk hb))
              refine hK.out _ _ ?_ (fun hHeld => ?_)
              · (try dsimp only); exact HCL.out _ HK.out
              clear hK K
              refine wpAnyH_ready (rs := [8]) (by kernel_rfl) (by simp) ?_
              refine AllReadyH.cons rfl (fun K hK => ?_) (AllReadyH.nil)
              rw [if_pos (by rfl)]
              (go_loud (refine step_store 35 _ _ rfl g9 (sysC ya.x) rfl rfl 35 _ HB9.out (by kernel_rfl) rfl (by kernel_rfl) ?_; intro ws8 hk hb; have hsz := hk.size; have HB10 := Lib.hid (HB10.out.keep hk (fun e => by omega)); have YA := Lib.hid (YA.out.keepT hk (fun z hz e => by have h1 := HSG.out z; rcases hz with hz | hz; (have := h1 hz; omega); omega)); have YB := Lib.hid (YB.out.keepT hk (fun z hz e => by have h1 := HSG.out z; rcases hz with hz | hz; (have := h1 hz; omega); omega)); have HB9 := Lib.hid hb; have HK := Lib.hid (HK.out.trans hk (fun z e => .inr (by omega))); clear hk hb))
              refine hK.out _ _ ?_ (fun hHeld => ?_)
              · (try dsimp only); exact HCL.out _ HK.out
              clear hK K
              refine wpAnyH_ready (rs := [9]) (by kernel_rfl) (by simp) ?_
              refine AllReadyH.cons rfl (fun K hK => ?_) (AllReadyH.nil)
              rw [if_pos (by rfl)]
              (go_loud (refine step_store 35 _ _ rfl g10 (sysC yb.x) rfl rfl 35 _ HB10.out (by kernel_rfl) rfl (by kernel_rfl) ?_; intro ws9 hk hb; have hsz := hk.size; have HB9 := Lib.hid (HB9.out.keep hk (fun e => by omega)); have YA := Lib.hid (YA.out.keepT hk (fun z hz e => by have h1 := HSG.out z; rcases hz with hz | hz; (have := h1 hz; omega); omega)); have YB := Lib.hid (YB.out.keepT hk (fun z hz e => by have h1 := HSG.out z; rcases hz with hz | hz; (have := h1 hz; omega); omega)); have HB10 := Lib.hid hb; have HK := Lib.hid (HK.out.trans hk (fun z e => .inr (by omega))); clear hk hb))
              refine hK.out _ _ ?_ (fun hHeld => ?_)
              · (try dsimp only); exact HCL.out _ HK.out
              clear hK K
              refine wpAnyH_done (by kernel_rfl) ?_ _
              go_wp2_with fail
              go_meet
              (case rel => exact ⟨g9, g10, ya, yb, rfl, rfl, HK.out, HB9.out, HB10.out, HMA.out, HMB.out, YA.out.tight.mono (fun z h => h.2), YB.out.tight.mono (fun z h => h.2)⟩)
            · skip
              rw [if_pos (by rfl)]
              (go_loud (refine step_alloc rfl alloc_sys ?_; intro g10 wa7 hga hk hb; have hsz := hk.size; (try have HB9 := Lib.hid (HB9.out.keep hk (fun f => f))); (try have HB10 := Lib.hid (HB10.out.keep hk (fun f => f))); (try have YA := Lib.hid (YA.out.keepT hk (fun _ _ f => f))); (try have YB := Lib.hid (YB.out.keepT hk (fun _ _ f => f))); have hgl := hb.lt; have HB10 := Lib.hid hb; have HK := Lib.hid (HK.out.trans hk (fun _ f => f.elim)); clear hk hb))
              refine hK.out _ _ ?_ (fun hHeld => ?_)
              · (try dsimp only); exact HCL.out _ HK.out
              clear hK K
              refine wpAnyH_ready (rs := [6]) (by kernel_rfl) (by simp) ?_
              refine AllReadyH.cons rfl (fun K hK => ?_) (AllReadyH.nil)
              rw [if_pos (by rfl)]
              (go_loud (refine step_alloc rfl alloc_sys ?_; intro g9 wa6 hga hk hb; have hsz := hk.size; (try have HB9 := Lib.hid (HB9.out.keep hk (fun f => f))); (try have HB10 := Lib.hid (HB10.out.keep hk (fun f => f))); (try have YA := Lib.hid (YA.out.keepT hk (fun _ _ f => f))); (try have YB := Lib.hid (YB.out.keepT hk (fun _ _ f => f))); have hgl := hb.lt; have HB9 := Lib.hid hb; have HK := Lib.hid (HK.out.trans hk (fun _ f => f.elim)); clear hk hb))
              refine hK.out _ _ ?_ (fun hHeld => ?_)
              · (try dsimp only); exact HCL.out _ HK.out
              clear hK K
              refine wpAnyH_ready (rs := [8]) (by kernel_rfl) (by simp) ?_
              refine AllReadyH.cons rfl (fun K hK => ?_) (AllReadyH.nil)
              rw [if_pos (by rfl)]
              (go_loud (refine step_store 35 _ _ rfl g9 (sysC ya.x) rfl rfl 35 _ HB9.out (by kernel_rfl) rfl (by kernel_rfl) ?_; intro ws8 hk hb; have hsz := hk.size; have HB10 := Lib.hid (HB10.out.keep hk (fun e => by omega)); have YA := Lib.hid (YA.out.keepT hk (fun z hz e => by have h1 := HSG.out z; rcases hz with hz | hz; (have := h1 hz; omega); omega)); have YB := Lib.hid (YB.out.keepT hk (fun z hz e => by have h1 := HSG.out z; rcases hz with hz | hz; (have := h1 hz; omega); omega)); have HB9 := Lib.hid hb; have HK := Lib.hid (HK.out.trans hk (fun z e => .inr (by omega))); clear hk hb))
              refine hK.out _ _ ?_ (fun hHeld => ?_)
              · (try dsimp only); exact HCL.out _ HK.out
              clear hK K
              refine wpAnyH_ready (rs := [9]) (by kernel_rfl) (by simp) ?_
              refine AllReadyH.cons rfl (fun K hK => ?_) (AllReadyH.nil)
              rw [if_pos (by rfl)]
              (go_loud (refine step_store 35 _ _ rfl g10 (sysC yb.x) rfl rfl 35 _ HB10.out (by kernel_rfl) rfl (by kernel_rfl) ?_; intro ws9 hk hb; have hsz := hk.size; have HB9 := Lib.hid (HB9.out.keep hk (fun e => by omega)); have YA := Lib.hid (YA.out.keepT hk (fun z hz e => by have h1 := HSG.out z; rcases hz with hz | hz; (have := h1 hz; omega); omega)); have YB := Lib.hid (YB.out.keepT hk (fun z hz e => by have h1 := HSG.out z; rcases hz with hz | hz; (have := h1 hz; omega); omega)); have HB10 := Lib.hid hb; have HK := Lib.hid (HK.out.trans hk (fun z e => .inr (by omega))); clear hk hb))
              refine hK.out _ _ ?_ (fun hHeld => ?_)
              · (try dsimp only); exact HCL.out _ HK.out
              clear hK K
              refine wpAnyH_done (by kernel_rfl) ?_ _
              go_wp2_with fail
              go_meet
              (case rel => exact ⟨g9, g10, ya, yb, rfl, rfl, HK.out, HB9.out, HB10.out, HMA.out, HMB.out, YA.out.tight.mono (fun z h => h.2), YB.out.tight.mono (fun z h => h.2)⟩)
          · skip
            rw [if_pos (by rfl)]
            (go_loud (refine step_alloc rfl alloc_sys ?_; intro g9 wa6 hga hk hb; have hsz := hk.size; (try have HB9 := Lib.hid (HB9.out.keep hk (fun f => f))); (try have HB10 := Lib.hid (HB10.out.keep hk (fun f => f))); (try have YA := Lib.hid (YA.out.keepT hk (fun _ _ f => f))); (try have YB := Lib.hid (YB.out.keepT hk (fun _ _ f => f))); have hgl := hb.lt; have HB9 := Lib.hid hb; have HK := Lib.hid (HK.out.trans hk (fun _ f => f.elim)); clear hk hb))
            refine hK.out _ _ ?_ (fun hHeld => ?_)
            · (try dsimp only); exact HCL.out _ HK.out
            clear hK K
            refine wpAnyH_ready (rs := [5, 7]) (by kernel_rfl) (by simp) ?_
            refine AllReadyH.cons rfl (fun K hK => ?_) (AllReadyH.cons rfl (fun K hK => ?_) (AllReadyH.nil))
            · skip
              go_simp
              go_wp2_with ((go_at_call 26; go_loud (refine (HMY.out _ HK.out).mono ?_; rintro e wB ⟨yb, rfl, hma, hsa, hra, hk⟩; have hsz := hk.size; (try have HB9 := Lib.hid (HB9.out.keep hk (fun f => f))); (try have HB10 := Lib.hid (HB10.out.keep hk (fun f => f))); (try have YA := Lib.hid (YA.out.keepT hk (fun _ _ f => f))); (try have YB := Lib.hid (YB.out.keepT hk (fun _ _ f => f))); have YB := Lib.hid hra; have HMB := Lib.hid (And.intro hma hsa); have HK := Lib.hid (HK.out.trans hk (fun _ f => f.elim)); clear hma hsa hra hk)))
              refine hK.out _ _ ?_ (fun hHeld => ?_)
              · (try dsimp only); exact HCL.out _ HK.out
              clear hK K
              refine wpAnyH_ready (rs := [7]) (by kernel_rfl) (by simp) ?_
              refine AllReadyH.cons rfl (fun K hK => ?_) (AllReadyH.nil)
              rw [if_pos (by rfl)]
              (go_loud (refine step_alloc rfl alloc_sys ?_; intro g10 wa7 hga hk hb; have hsz := hk.size; (try have HB9 := Lib.hid (HB9.out.keep hk (fun f => f))); (try have HB10 := Lib.hid (HB10.out.keep hk (fun f => f))); (try have YA := Lib.hid (YA.out.keepT hk (fun _ _ f => f))); (try have YB := Lib.hid (YB.out.keepT hk (fun _ _ f => f))); have hgl := hb.lt; have HB10 := Lib.hid hb; have HK := Lib.hid (HK.out.trans hk (fun _ f => f.elim)); clear hk hb))
              refine hK.out _ _ ?_ (fun hHeld => ?_)
              · (try dsimp only); exact HCL.out _ HK.out
              clear hK K
              refine wpAnyH_ready (rs := [8]) (by kernel_rfl) (by simp) ?_
              refine AllReadyH.cons rfl (fun K hK => ?_) (AllReadyH.nil)
              rw [if_pos (by rfl)]
              (go_loud (refine step_store 35 _ _ rfl g9 (sysC ya.x) rfl rfl 35 _ HB9.out (by kernel_rfl) rfl (by kernel_rfl) ?_; intro ws8 hk hb; have hsz := hk.size; have HB10 := Lib.hid (HB10.out.keep hk (fun e => by omega)); have YA := Lib.hid (YA.out.keepT hk (fun z hz e => by have h1 := HSG.out z; rcases hz with hz | hz; (have := h1 hz; omega); omega)); have YB := Lib.hid (YB.out.keepT hk (fun z hz e => by have h1 := HSG.out z; rcases hz with hz | hz; (have := h1 hz; omega); omega)); have HB9 := Lib.hid hb; have HK := Lib.hid (HK.out.trans hk (fun z e => .inr (by omega))); clear hk hb))
              refine hK.out _ _ ?_ (fun hHeld => ?_)
              · (try dsimp only); exact HCL.out _ HK.out
              clear hK K
              refine wpAnyH_ready (rs := [9]) (by kernel_rfl) (by simp) ?_
              refine AllReadyH.cons rfl (fun K hK => ?_) (AllReadyH.nil)
              rw [if_pos (by rfl)]
              (go_loud (refine step_store 35 _ _ rfl g10 (sysC yb.x) rfl rfl 35 _ HB10.out (by kernel_rfl) rfl (by kernel_rfl) ?_; intro ws9 hk hb; have hsz := hk.size; have HB9 := Lib.hid (HB9.out.keep hk (fun e => by omega)); have YA := Lib.hid (YA.out.keepT hk (fun z hz e => by have h1 := HSG.out z; rcases hz with hz | hz; (have := h1 hz; omega); omega)); have YB := Lib.hid (YB.out.keepT hk (fun z hz e => by have h1 := HSG.out z; rcases hz with hz | hz; (have := h1 hz; omega); omega)); have HB10 := Lib.hid hb; have HK := Lib.hid (HK.out.trans hk (fun z e => .inr (by omega))); clear hk hb))
              refine hK.out _ _ ?_ (fun hHeld => ?_)
              · (try dsimp only); exact HCL.out _ HK.out
              clear hK K
              refine wpAnyH_done (by kernel_rfl) ?_ _
              go_wp2_with fail
              go_meet
              (case rel => exact ⟨g9, g10, ya, yb, rfl, rfl, HK.out, HB9.out, HB10.out, HMA.out, HMB.out, YA.out.tight.mono (fun z h => h.2), YB.out.tight.mono (fun z h => h.2)⟩)
            · skip
              rw [if_pos (by rfl)]
              (go_loud (refine step_alloc rfl alloc_sys ?_; intro g10 wa7 hga hk hb; have hsz := hk.size; (try have HB9 := Lib.hid (HB9.out.keep hk (fun f => f))); (try have HB10 := Lib.hid (HB10.out.keep hk (fun f => f))); (try have YA := Lib.hid (YA.out.keepT hk (fun _ _ f => f))); (try have YB := Lib.hid (YB.out.keepT hk (fun _ _ f => f))); have hgl := hb.lt; have HB10 := Lib.hid hb; have HK := Lib.hid (HK.out.trans hk (fun _ f => f.elim)); clear hk hb))
              refine hK.out _ _ ?_ (fun hHeld => ?_)
              · (try dsimp only); exact HCL.out _ HK.out
              clear hK K
              refine wpAnyH_ready (rs := [5]) (by kernel_rfl) (by simp) ?_
              refine AllReadyH.cons rfl (fun K hK => ?_) (AllReadyH.nil)
              go_simp
              go_wp2_with ((go_at_call 26; go_loud (refine (HMY.out _ HK.out).mono ?_; rintro e wB ⟨yb, rfl, hma, hsa, hra, hk⟩; have hsz := hk.size; (try have HB9 := Lib.hid (HB9.out.keep hk (fun f => f))); (try have HB10 := Lib.hid (HB10.out.keep hk (fun f => f))); (try have YA := Lib.hid (YA.out.keepT hk (fun _ _ f => f))); (try have YB := Lib.hid (YB.out.keepT hk (fun _ _ f => f))); have YB := Lib.hid hra; have HMB := Lib.hid (And.intro hma hsa); have HK := Lib.hid (HK.out.trans hk (fun _ f => f.elim)); clear hma hsa hra hk)))
              refine hK.out _ _ ?_ (fun hHeld => ?_)
              · (try dsimp only); exact HCL.out _ HK.out
              clear hK K
              refine wpAnyH_ready (rs := [8]) (by kernel_rfl) (by simp) ?_
              refine AllReadyH.cons rfl (fun K hK => ?_) (AllReadyH.nil)
              rw [if_pos (by rfl)]
              (go_loud (refine step_store 35 _ _ rfl g9 (sysC ya.x) rfl rfl 35 _ HB9.out (by kernel_rfl) rfl (by kernel_rfl) ?_; intro ws8 hk hb; have hsz := hk.size; have HB10 := Lib.hid (HB10.out.keep hk (fun e => by omega)); have YA := Lib.hid (YA.out.keepT hk (fun z hz e => by have h1 := HSG.out z; rcases hz with hz | hz; (have := h1 hz; omega); omega)); have YB := Lib.hid (YB.out.keepT hk (fun z hz e => by have h1 := HSG.out z; rcases hz with hz | hz; (have := h1 hz; omega); omega)); have HB9 := Lib.hid hb; have HK := Lib.hid (HK.out.trans hk (fun z e => .inr (by omega))); clear hk hb))
              refine hK.out _ _ ?_ (fun hHeld => ?_)
              · (try dsimp only); exact HCL.out _ HK.out
              clear hK K
              refine wpAnyH_ready (rs := [9]) (by kernel_rfl) (by simp) ?_
              refine AllReadyH.cons rfl (fun K hK => ?_) (AllReadyH.nil)
              rw [if_pos (by rfl)]
              (go_loud (refine step_store 35 _ _ rfl g10 (sysC yb.x) rfl rfl 35 _ HB10.out (by kernel_rfl) rfl (by kernel_rfl) ?_; intro ws9 hk hb; have hsz := hk.size; have HB9 := Lib.hid (HB9.out.keep hk (fun e => by omega)); have YA := Lib.hid (YA.out.keepT hk (fun z hz e => by have h1 := HSG.out z; rcases hz with hz | hz; (have := h1 hz; omega); omega)); have YB := Lib.hid (YB.out.keepT hk (fun z hz e => by have h1 := HSG.out z; rcases hz with hz | hz; (have := h1 hz; omega); omega)); have HB10 := Lib.hid hb; have HK := Lib.hid (HK.out.trans hk (fun z e => .inr (by omega))); clear hk hb))
              refine hK.out _ _ ?_ (fun hHeld => ?_)
              · (try dsimp only); exact HCL.out _ HK.out
              clear hK K
              refine wpAnyH_done (by kernel_rfl) ?_ _
              go_wp2_with fail
              go_meet
              (case rel => exact ⟨g9, g10, ya, yb, rfl, rfl, HK.out, HB9.out, HB10.out, HMA.out, HMB.out, YA.out.tight.mono (fun z h => h.2), YB.out.tight.mono (fun z h => h.2)⟩)
          · skip
            rw [if_pos (by rfl)]
            (go_loud (refine step_alloc rfl alloc_sys ?_; intro g10 wa7 hga hk hb; have hsz := hk.size; (try have HB9 := Lib.hid (HB9.out.keep hk (fun f => f))); (try have HB10 := Lib.hid (HB10.out.keep hk (fun f => f))); (try have YA := Lib.hid (YA.out.keepT hk (fun _ _ f => f))); (try have YB := Lib.hid (YB.out.keepT hk (fun _ _ f => f))); have hgl := hb.lt; have HB10 := Lib.hid hb; have HK := Lib.hid (HK.out.trans hk (fun _ f => f.elim)); clear hk hb))
            refine hK.out _ _ ?_ (fun hHeld => ?_)
            · (try dsimp only); exact HCL.out _ HK.out
            clear hK K
            refine wpAnyH_ready (rs := [5, 6]) (by kernel_rfl) (by simp) ?_
            refine AllReadyH.cons rfl (fun K hK => ?_) (AllReadyH.cons rfl (fun K hK => ?_) (AllReadyH.nil))
            · skip
              go_simp
              go_wp2_with ((go_at_call 26; go_loud (refine (HMY.out _ HK.out).mono ?_; rintro e wB ⟨yb, rfl, hma, hsa, hra, hk⟩; have hsz := hk.size; (try have HB9 := Lib.hid (HB9.out.keep hk (fun f => f))); (try have HB10 := Lib.hid (HB10.out.keep hk (fun f => f))); (try have YA := Lib.hid (YA.out.keepT hk (fun _ _ f => f))); (try have YB := Lib.hid (YB.out.keepT hk (fun _ _ f => f))); have YB := Lib.hid hra; have HMB := Lib.hid (And.intro hma hsa); have HK := Lib.hid (HK.out.trans hk (fun _ f => f.elim)); clear hma hsa hra hk)))
              refine hK.out _ _ ?_ (fun hHeld => ?_)
              · (try dsimp only); exact HCL.out _ HK.out
              clear hK K
              refine wpAnyH_ready (rs := [6]) (by kernel_rfl) (by simp) ?_
              refine AllReadyH.cons rfl (fun K hK => ?_) (AllReadyH.nil)
              rw [if_pos (by rfl)]
              (go_loud (refine step_alloc rfl alloc_sys ?_; intro g9 wa6 hga hk hb; have hsz := hk.size; (try have HB9 := Lib.hid (HB9.out.keep hk (fun f => f))); (try have HB10 := Lib.hid (HB10.out.keep hk (fun f => f))); (try have YA := Lib.hid (YA.out.keepT hk (fun _ _ f => f))); (try have YB := Lib.hid (YB.out.keepT hk (fun _ _ f => f))); have hgl := hb.lt; have HB9 := Lib.hid hb; have HK := Lib.hid (HK.out.trans hk (fun _ f => f.elim)); clear hk hb))
              refine hK.out _ _ ?_ (fun hHeld => ?_)
              · (try dsimp only); exact HCL.out _ HK.out
              clear hK K
              refine wpAnyH_ready (rs := [8]) (by kernel_rfl) (by simp) ?_
              refine AllReadyH.cons rfl (fun K hK => ?_) (AllReadyH.nil)
              rw [if_pos (by rfl)]
              (go_loud (refine step_store 35 _ _ rfl g9 (sysC ya.x) rfl rfl 35 _ HB9.out (by kernel_rfl) rfl (by kernel_rfl) ?_; intro ws8 hk hb; have hsz := hk.size; have HB10 := Lib.hid (HB10.out.keep hk (fun e => by omega)); have YA := Lib.hid (YA.out.keepT hk (fun z hz e => by have h1 := HSG.out z; rcases hz with hz | hz; (have := h1 hz; omega); omega)); have YB := Lib.hid (YB.out.keepT hk (fun z hz e => by have h1 := HSG.out z; rcases hz with hz | hz; (have := h1 hz; omega); omega)); have HB9 := Lib.hid hb; have HK := Lib.hid (HK.out.trans hk (fun z e => .inr (by omega))); clear hk hb))
              refine hK.out _ _ ?_ (fun hHeld => ?_)
              · (try dsimp only); exact HCL.out _ HK.out
              clear hK K
              refine wpAnyH_ready (rs := [9]) (by kernel_rfl) (by simp) ?_
              refine AllReadyH.cons rfl (fun K hK => ?_) (AllReadyH.nil)
              rw [if_pos (by rfl)]
              (go_loud (refine step_store 35 _ _ rfl g10 (sysC yb.x) rfl rfl 35 _ HB10.out (by kernel_rfl) rfl (by kernel_rfl) ?_; intro ws9 hk hb; have hsz := hk.size; have HB9 := Lib.hid (HB9.out.keep hk (fun e => by omega)); have YA := Lib.hid (YA.out.keepT hk (fun z hz e => by have h1 := HSG.out z; rcases hz with hz | hz; (have := h1 hz; omega); omega)); have YB := Lib.hid (YB.out.keepT hk (fun z hz e => by have h1 := HSG.out z; rcases hz with hz | hz; (have := h1 hz; omega); omega)); have HB10 := Lib.hid hb; have HK := Lib.hid (HK.out.trans hk (fun z e => .inr (by omega))); clear hk hb))
              refine hK.out _ _ ?_ (fun hHeld => ?_)
              · (try dsimp only); exact HCL.out _ HK.out
              clear hK K
              refine wpAnyH_done (by kernel_rfl) ?_ _
              go_wp2_with fail
              go_meet
              (case rel => exact ⟨g9, g10, ya, yb, rfl, rfl, HK.out, HB9.out, HB10.out, HMA.out, HMB.out, YA.out.tight.mono (fun z h => h.2), YB.out.tight.mono (fun z h => h.2)⟩)
            · skip
              rw [if_pos (by rfl)]
              (go_loud (refine step_alloc rfl alloc_sys ?_; intro g9 wa6 hga hk hb; have hsz := hk.size; (try have HB9 := Lib.hid (HB9.out.keep hk (fun f => f))); (try have HB10 := Lib.hid (HB10.out.keep hk (fun f => f))); (try have YA := Lib.hid (YA.out.keepT hk (fun _ _ f => f))); (try have YB := Lib.hid (YB.out.keepT hk (fun _ _ f => f))); have hgl := hb.lt; have HB9 := Lib.hid hb; have HK := Lib.hid (HK.out.trans hk (fun _ f => f.elim)); clear hk hb))
              refine hK.out _ _ ?_ (fun hHeld => ?_)
              · (try dsimp only); exact HCL.out _ HK.out
              clear hK K
              refine wpAnyH_ready (rs := [5]) (by kernel_rfl) (by simp) ?_
              refine AllReadyH.cons rfl (fun K hK => ?_) (AllReadyH.nil)
              go_simp
              go_wp2_with ((go_at_call 26; go_loud (refine (HMY.out _ HK.out).mono ?_; rintro e wB ⟨yb, rfl, hma, hsa, hra, hk⟩; have hsz := hk.size; (try have HB9 := Lib.hid (HB9.out.keep hk (fun f => f))); (try have HB10 := Lib.hid (HB10.out.keep hk (fun f => f))); (try have YA := Lib.hid (YA.out.keepT hk (fun _ _ f => f))); (try have YB := Lib.hid (YB.out.keepT hk (fun _ _ f => f))); have YB := Lib.hid hra; have HMB := Lib.hid (And.intro hma hsa); have HK := Lib.hid (HK.out.trans hk (fun _ f => f.elim)); clear hma hsa hra hk)))
              refine hK.out _ _ ?_ (fun hHeld => ?_)
              · (try dsimp only); exact HCL.out _ HK.out
              clear hK K
              refine wpAnyH_ready (rs := [8]) (by kernel_rfl) (by simp) ?_
              refine AllReadyH.cons rfl (fun K hK => ?_) (AllReadyH.nil)
              rw [if_pos (by rfl)]
              (go_loud (refine step_store 35 _ _ rfl g9 (sysC ya.x) rfl rfl 35 _ HB9.out (by kernel_rfl) rfl (by kernel_rfl) ?_; intro ws8 hk hb; have hsz := hk.size; have HB10 := Lib.hid (HB10.out.keep hk (fun e => by omega)); have YA := Lib.hid (YA.out.keepT hk (fun z hz e => by have h1 := HSG.out z; rcases hz with hz | hz; (have := h1 hz; omega); omega)); have YB := Lib.hid (YB.out.keepT hk (fun z hz e => by have h1 := HSG.out z; rcases hz with hz | hz; (have := h1 hz; omega); omega)); have HB9 := Lib.hid hb; have HK := Lib.hid (HK.out.trans hk (fun z e => .inr (by omega))); clear hk hb))
              refine hK.out _ _ ?_ (fun hHeld => ?_)
              · (try dsimp only); exact HCL.out _ HK.out
              clear hK K
              refine wpAnyH_ready (rs := [9]) (by kernel_rfl) (by simp) ?_
              refine AllReadyH.cons rfl (fun K hK => ?_) (AllReadyH.nil)
              rw [if_pos (by rfl)]
              (go_loud (refine step_store 35 _ _ rfl g10 (sysC yb.x) rfl rfl 35 _ HB10.out (by kernel_rfl) rfl (by kernel_rfl) ?_; intro ws9 hk hb; have hsz := hk.size; have HB9 := Lib.hid (HB9.out.keep hk (fun e => by omega)); have YA := Lib.hid (YA.out.keepT hk (fun z hz e => by have h1 := HSG.out z; rcases hz with hz | hz; (have := h1 hz; omega); omega)); have YB := Lib.hid (YB.out.keepT hk (fun z hz e => by have h1 := HSG.out z; rcases hz with hz | hz; (have := h1 hz; omega); omega)); have HB10 := Lib.hid hb; have HK := Lib.hid (HK.out.trans hk (fun z e => .inr (by omega))); clear hk hb))
              refine hK.out _ _ ?_ (fun hHeld => ?_)
              · (try dsimp only); exact HCL.out _ HK.out
              clear hK K
              refine wpAnyH_done (by kernel_rfl) ?_ _
              go_wp2_with fail
              go_meet
              (case rel => exact ⟨g9, g10, ya, yb, rfl, rfl, HK.out, HB9.out, HB10.out, HMA.out, HMB.out, YA.out.tight.mono (fun z h => h.2), YB.out.tight.mono (fun z h => h.2)⟩)
        · skip
          rw [if_pos (by rfl)]
          (go_loud (refine step_alloc rfl alloc_sys ?_; intro g9 wa6 hga hk hb; have hsz := hk.size; (try have HB9 := Lib.hid (HB9.out.keep hk (fun f => f))); (try have HB10 := Lib.hid (HB10.out.keep hk (fun f => f))); (try have YA := Lib.hid (YA.out.keepT hk (fun _ _ f => f))); (try have YB := Lib.hid (YB.out.keepT hk (fun _ _ f => f))); have hgl := hb.lt; have HB9 := Lib.hid hb; have HK := Lib.hid (HK.out.trans hk (fun _ f => f.elim)); clear hk hb))
          refine hK.out _ _ ?_ (fun hHeld => ?_)
          · (try dsimp only); exact HCL.out _ HK.out
          clear hK K
          refine wpAnyH_ready (rs := [2, 7]) (by kernel_rfl) (by simp) ?_
          refine AllReadyH.cons rfl (fun K hK => ?_) (AllReadyH.cons rfl (fun K hK => ?_) (AllReadyH.nil))
          · skip
            go_simp
            go_wp2_with ((go_at_call 26; go_loud (refine (HMX.out _ HK.out).mono ?_; rintro e wA ⟨ya, rfl, hma, hsa, hra, hk⟩; have hsz := hk.size; (try have HB9 := Lib.hid (HB9.out.keep hk (fun f => f))); (try have HB10 := Lib.hid (HB10.out.keep hk (fun f => f))); (try have YA := Lib.hid (YA.out.keepT hk (fun _ _ f => f))); (try have YB := Lib.hid (YB.out.keepT hk (fun _ _ f => f))); have YA := Lib.hid hra; have HMA := Lib.hid (And.intro hma hsa); have HK := Lib.hid (HK.out.trans hk (fun _ f => f.elim)); clear hma hsa hra hk)))
            refine hK.out _ _ ?_ (fun hHeld => ?_)
            · (try dsimp only); exact HCL.out _ HK.out
            clear hK K
            refine wpAnyH_ready (rs := [5, 7]) (by kernel_rfl) (by simp) ?_
            refine AllReadyH.cons rfl (fun K hK => ?_) (AllReadyH.cons rfl (fun K hK => ?_) (AllReadyH.nil))
            · skip
              go_simp
              go_wp2_with ((go_at_call 26; go_loud (refine (HMY.out _ HK.out).mono ?_; rintro e wB ⟨yb, rfl, hma, hsa, hra, hk⟩; have hsz := hk.size; (try have HB9 := Lib.hid (HB9.out.keep hk (fun f => f))); (try have HB10 := Lib.hid (HB10.out.keep hk (fun f => f))); (try have YA := Lib.hid (YA.out.keepT hk (fun _ _ f => f))); (try have YB := Lib.hid (YB.out.keepT hk (fun _ _ f => f))); have YB := Lib.hid hra; have HMB := Lib.hid (And.intro hma hsa); have HK := Lib.hid (HK.out.trans hk (fun _ f => f.elim)); clear hma hsa hra hk)))
              refine hK.out _ _ ?_ (fun hHeld => ?_)
              · (try dsimp only); exact HCL.out _ HK.out
              clear hK K
              refine wpAnyH_ready (rs := [7]) (by kernel_rfl) (by simp) ?_
              refine AllReadyH.cons rfl (fun K hK => ?_) (AllReadyH.nil)
              rw [if_pos (by rfl)]
              (go_loud (refine step_alloc rfl alloc_sys ?_; intro g10 wa7 hga hk hb; have hsz := hk.size; (try have HB9 := Lib.hid (HB9.out.keep hk (fun f => f))); (try have HB10 := Lib.hid (HB10.out.keep hk (fun f => f))); (try have YA := Lib.hid (YA.out.keepT hk (fun _ _ f => f))); (try have YB := Lib.hid (YB.out.keepT hk (fun _ _ f => f))); have hgl := hb.lt; have HB10 := Lib.hid hb; have HK := Lib.hid (HK.out.trans hk (fun _ f => f.elim)); clear hk hb))
              refine hK.out _ _ ?_ (fun hHeld => ?_)
              · (try dsimp only); exact HCL.out _ HK.out
              clear hK K
              refine wpAnyH_ready (rs := [8]) (by kernel_rfl) (by simp) ?_
              refine AllReadyH.cons rfl (fun K hK => ?_) (AllReadyH.nil)
              rw [if_pos (by rfl)]
              (go_loud (refine step_store 35 _ _ rfl g9 (sysC ya.x) rfl rfl 35 _ HB9.out (by kernel_rfl) rfl (by kernel_rfl) ?_; intro ws8 hk hb; have hsz := hk.size; have HB10 := Lib.hid (HB10.out.keep hk (fun e => by omega)); have YA := Lib.hid (YA.out.keepT hk (fun z hz e => by have h1 := HSG.out z; rcases hz with hz | hz; (have := h1 hz; omega); omega)); have YB := Lib.hid (YB.out.keepT hk (fun z hz e => by have h1 := HSG.out z; rcases hz with hz | hz; (have := h1 hz; omega); omega)); have HB9 := Lib.hid hb; have HK := Lib.hid (HK.out.trans hk (fun z e => .inr (by omega))); clear hk hb))
              refine hK.out _ _ ?_ (fun hHeld => ?_)
              · (try dsimp only); exact HCL.out _ HK.out
              clear hK K
              refine wpAnyH_ready (rs := [9]) (by kernel_rfl) (by simp) ?_
              refine AllReadyH.cons rfl (fun K hK => ?_) (AllReadyH.nil)
              rw [if_pos (by rfl)]
              (go_loud (refine step_store 35 _ _ rfl g10 (sysC yb.x) rfl rfl 35 _ HB10.out (by kernel_rfl) rfl (by kernel_rfl) ?_; intro ws9 hk hb; have hsz := hk.size; have HB9 := Lib.hid (HB9.out.keep hk (fun e => by omega)); have YA := Lib.hid (YA.out.keepT hk (fun z hz e => by have h1 := HSG.out z; rcases hz with hz | hz; (have := h1 hz; omega); omega)); have YB := Lib.hid (YB.out.keepT hk (fun z hz e => by have h1 := HSG.out z; rcases hz with hz | hz; (have := h1 hz; omega); omega)); have HB10 := Lib.hid hb; have HK := Lib.hid (HK.out.trans hk (fun z e => .inr (by omega))); clear hk hb))
              refine hK.out _ _ ?_ (fun hHeld => ?_)
              · (try dsimp only); exact HCL.out _ HK.out
              clear hK K
              refine wpAnyH_done (by kernel_rfl) ?_ _
              go_wp2_with fail
              go_meet
              (case rel => exact ⟨g9, g10, ya, yb, rfl, rfl, HK.out, HB9.out, HB10.out, HMA.out, HMB.out, YA.out.tight.mono (fun z h => h.2), YB.out.tight.mono (fun z h => h.2)⟩)
            · skip
              rw [if_pos (by rfl)]
              (go_loud (refine step_alloc rfl alloc_sys ?_; intro g10 wa7 hga hk hb; have hsz := hk.size; (try have HB9 := Lib.hid (HB9.out.keep hk (fun f => f))); (try have HB10 := Lib.hid (HB10.out.keep hk (fun f => f))); (try have YA := Lib.hid (YA.out.keepT hk (fun _ _ f => f))); (try have YB := Lib.hid (YB.out.keepT hk (fun _ _ f => f))); have hgl := hb.lt; have HB10 := Lib.hid hb; have HK := Lib.hid (HK.out.trans hk (fun _ f => f.elim)); clear hk hb))
              refine hK.out _ _ ?_ (fun hHeld => ?_)
              · (try dsimp only); exact HCL.out _ HK.out
              clear hK K
              refine wpAnyH_ready (rs := [5]) (by kernel_rfl) (by simp) ?_
              refine AllReadyH.cons rfl (fun K hK => ?_) (AllReadyH.nil)
              go_simp
              go_wp2_with ((go_at_call 26; go_loud (refine (HMY.out _ HK.out).mono ?_; rintro e wB ⟨yb, rfl, hma, hsa, hra, hk⟩; have hsz := hk.size; (try have HB9 := Lib.hid (HB9.out.keep hk (fun f => f))); (try have HB10 := Lib.hid (HB10.out.keep hk (fun f => f))); (try have YA := Lib.hid (YA.out.keepT hk (fun _ _ f => f))); (try have YB := Lib.hid (YB.out.keepT hk (fun _ _ f => f))); have YB := Lib.hid hra; have HMB := Lib.hid (And.intro hma hsa); have HK := Lib.hid (HK.out.trans hk (fun _ f => f.elim)); clear hma hsa hra hk)))
              refine hK.out _ _ ?_ (fun hHeld => ?_)
              · (try dsimp only); exact HCL.out _ HK.out
              clear hK K
              refine wpAnyH_ready (rs := [8]) (by kernel_rfl) (by simp) ?_
              refine AllReadyH.cons rfl (fun K hK => ?_) (AllReadyH.nil)
              rw [if_pos (by rfl)]
              (go_loud (refine step_store 35 _ _ rfl g9 (sysC ya.x) rfl rfl 35 _ HB9.out (by kernel_rfl) rfl (by kernel_rfl) ?_; intro ws8 hk hb; have hsz := hk.size; have HB10 := Lib.hid (HB10.out.keep hk (fun e => by omega)); have YA := Lib.hid (YA.out.keepT hk (fun z hz e => by have h1 := HSG.out z; rcases hz with hz | hz; (have := h1 hz; omega); omega)); have YB := Lib.hid (YB.out.keepT hk (fun z hz e => by have h1 := HSG.out z; rcases hz with hz | hz; (have := h1 hz; omega); omega)); have HB9 := Lib.hid hb; have HK := Lib.hid (HK.out.trans hk (fun z e => .inr (by omega))); clear hk hb))
              refine hK.out _ _ ?_ (fun hHeld => ?_)
              · (try dsimp only); exact HCL.out _ HK.out
              clear hK K
              refine wpAnyH_ready (rs := [9]) (by kernel_rfl) (by simp) ?_
              refine AllReadyH.cons rfl (fun K hK => ?_) (AllReadyH.nil)
              rw [if_pos (by rfl)]
              (go_loud (refine step_store 35 _ _ rfl g10 (sysC yb.x) rfl rfl 35 _ HB10.out (by kernel_rfl) rfl (by kernel_rfl) ?_; intro ws9 hk hb; have hsz := hk.size; have HB9 := Lib.hid (HB9.out.keep hk (fun e => by omega)); have YA := Lib.hid (YA.out.keepT hk (fun z hz e => by have h1 := HSG.out z; rcases hz with hz | hz; (have := h1 hz; omega); omega)); have YB := Lib.hid (YB.out.keepT hk (fun z hz e => by have h1 := HSG.out z; rcases hz with hz | hz; (have := h1 hz; omega); omega)); have HB10 := Lib.hid hb; have HK := Lib.hid (HK.out.trans hk (fun z e => .inr (by omega))); clear hk hb))
              refine hK.out _ _ ?_ (fun hHeld => ?_)
              · (try dsimp only); exact HCL.out _ HK.out
              clear hK K
              refine wpAnyH_done (by kernel_rfl) ?_ _
              go_wp2_with fail
              go_meet
              (case rel => exact ⟨g9, g10, ya, yb, rfl, rfl, HK.out, HB9.out, HB10.out, HMA.out, HMB.out, YA.out.tight.mono (fun z h => h.2), YB.out.tight.mono (fun z h => h.2)⟩)
          · skip
            rw [if_pos (by rfl)]
            (go_loud (refine step_alloc rfl alloc_sys ?_; intro g10 wa7 hga hk hb; have hsz := hk.size; (try have HB9 := Lib.hid (HB9.out.keep hk (fun f => f))); (try have HB10 := Lib.hid (HB10.out.keep hk (fun f => f))); (try have YA := Lib.hid (YA.out.keepT hk (fun _ _ f => f))); (try have YB := Lib.hid (YB.out.keepT hk (fun _ _ f => f))); have hgl := hb.lt; have HB10 := Lib.hid hb; have HK := Lib.hid (HK.out.trans hk (fun _ f => f.elim)); clear hk hb))
            refine hK.out _ _ ?_ (fun hHeld => ?_)
            · (try dsimp only); exact HCL.out _ HK.out
            clear hK K
            refine wpAnyH_ready (rs := [2]) (by kernel_rfl) (by simp) ?_
            refine AllReadyH.cons rfl (fun K hK => ?_) (AllReadyH.nil)
            go_simp
            go_wp2_with ((go_at_call 26; go_loud (refine (HMX.out _ HK.out).mono ?_; rintro e wA ⟨ya, rfl, hma, hsa, hra, hk⟩; have hsz := hk.size; (try have HB9 := Lib.hid (HB9.out.keep hk (fun f => f))); (try have HB10 := Lib.hid (HB10.out.keep hk (fun f => f))); (try have YA := Lib.hid (YA.out.keepT hk (fun _ _ f => f))); (try have YB := Lib.hid (YB.out.keepT hk (fun _ _ f => f))); have YA := Lib.hid hra; have HMA := Lib.hid (And.intro hma hsa); have HK := Lib.hid (HK.out.trans hk (fun _ f => f.elim)); clear hma hsa hra hk)))
            refine hK.out _ _ ?_ (fun hHeld => ?_)
            · (try dsimp only); exact HCL.out _ HK.out
            clear hK K
            refine wpAnyH_ready (rs := [5]) (by kernel_rfl) (by simp) ?_
            refine AllReadyH.cons rfl (fun K hK => ?_) (AllReadyH.nil)
            go_simp
            go_wp2_with ((go_at_call 26; go_loud (refine (HMY.out _ HK.out).mono ?_; rintro e wB ⟨yb, rfl, hma, hsa, hra, hk⟩; have hsz := hk.size; (try have HB9 := Lib.hid (HB9.out.keep hk (fun f => f))); (try have HB10 := Lib.hid (HB10.out.keep hk (fun f => f))); (try have YA := Lib.hid (YA.out.keepT hk (fun _ _ f => f))); (try have YB := Lib.hid (YB.out.keepT hk (fun _ _ f => f))); have YB := Lib.hid hra; have HMB := Lib.hid (And.intro hma hsa); have HK := Lib.hid (HK.out.trans hk (fun _ f => f.elim)); clear hma hsa hra hk)))
            refine hK.out _ _ ?_ (fun hHeld => ?_)
            · (try dsimp only); exact HCL.out _ HK.out
            clear hK K
            refine wpAnyH_ready (rs := [8]) (by kernel_rfl) (by simp) ?_
            refine AllReadyH.cons rfl (fun K hK => ?_) (AllReadyH.nil)
            rw [if_pos (by rfl)]
            (go_loud (refine step_store 35 _ _ rfl g9 (sysC ya.x) rfl rfl 35 _ HB9.out (by kernel_rfl) rfl (by kernel_rfl) ?_; intro ws8 hk hb; have hsz := hk.size; have HB10 := Lib.hid (HB10.out.keep hk (fun e => by omega)); have YA := Lib.hid (YA.out.keepT hk (fun z hz e => by have h1 := HSG.out z; rcases hz with hz | hz; (have := h1 hz; omega); omega)); have YB := Lib.hid (YB.out.keepT hk (fun z hz e => by have h1 := HSG.out z; rcases hz with hz | hz; (have := h1 hz; omega); omega)); have HB9 := Lib.hid hb; have HK := Lib.hid (HK.out.trans hk (fun z e => .inr (by omega))); clear hk hb))
            refine hK.out _ _ ?_ (fun hHeld => ?_)
            · (try dsimp only); exact HCL.out _ HK.out
            clear hK K
            refine wpAnyH_ready (rs := [9]) (by kernel_rfl) (by simp) ?_
            refine AllReadyH.cons rfl (fun K hK => ?_) (AllReadyH.nil)
            rw [if_pos (by rfl)]
            (go_loud (refine step_store 35 _ _ rfl g10 (sysC yb.x) rfl rfl 35 _ HB10.out (by kernel_rfl) rfl (by kernel_rfl) ?_; intro ws9 hk hb; have hsz := hk.size; have HB9 := Lib.hid (HB9.out.keep hk (fun e => by omega)); have YA := Lib.hid (YA.out.keepT hk (fun z hz e => by have h1 := HSG.out z; rcases hz with hz | hz; (have := h1 hz; omega); omega)); have YB := Lib.hid (YB.out.keepT hk (fun z hz e => by have h1 := HSG.out z; rcases hz with hz | hz; (have := h1 hz; omega); omega)); have HB10 := Lib.hid hb; have HK := Lib.hid (HK.out.trans hk (fun z e => .inr (by omega))); clear hk hb))
            refine hK.out _ _ ?_ (fun hHeld => ?_)
            · (try dsimp only); exact HCL.out _ HK.out
            clear hK K
            refine wpAnyH_done (by kernel_rfl) ?_ _
            go_wp2_with fail
            go_meet
            (case rel => exact ⟨g9, g10, ya, yb, rfl, rfl, HK.out, HB9.out, HB10.out, HMA.out, HMB.out, YA.out.tight.mono (fun z h => h.2), YB.out.tight.mono (fun z h => h.2)⟩)
        · skip
          rw [if_pos (by rfl)]
          (go_loud (refine step_alloc rfl alloc_sys ?_; intro g10 wa7 hga hk hb; have hsz := hk.size; (try have HB9 := Lib.hid (HB9.out.keep hk (fun f => f))); (try have HB10 := Lib.hid (HB10.out.keep hk (fun f => f))); (try have YA := Lib.hid (YA.out.keepT hk (fun _ _ f => f))); (try have YB := Lib.hid (YB.out.keepT hk (fun _ _ f => f))); have hgl := hb.lt; have HB10 := Lib.hid hb; have HK := Lib.hid (HK.out.trans hk (fun _ f => f.elim)); clear hk hb))
          refine hK.out _ _ ?_ (fun hHeld => ?_)
          · (try dsimp only); exact HCL.out _ HK.out
          clear hK K
          refine wpAnyH_ready (rs := [2, 6]) (by kernel_rfl) (by simp) ?_
          refine AllReadyH.cons rfl (fun K hK => ?_) (AllReadyH.cons rfl (fun K hK => ?_) (AllReadyH.nil))
          · skip
            go_simp
            go_wp2_with ((go_at_call 26; go_loud (refine (HMX.out _ HK.out).mono ?_; rintro e wA ⟨ya, rfl, hma, hsa, hra, hk⟩; have hsz := hk.size; (try have HB9 := Lib.hid (HB9.out.keep hk (fun f => f))); (try have HB10 := Lib.hid (HB10.out.keep hk (fun f => f))); (try have YA := Lib.hid (YA.out.keepT hk (fun _ _ f => f))); (try have YB := Lib.hid (YB.out.keepT hk (fun _ _ f => f))); have YA := Lib.hid hra; have HMA := Lib.hid (And.intro hma hsa); have HK := Lib.hid (HK.out.trans hk (fun _ f => f.elim)); clear hma hsa hra hk)))
            refine hK.out _ _ ?_ (fun hHeld => ?_)
            · (try dsimp only); exact HCL.out _ HK.out
            clear hK K
            refine wpAnyH_ready (rs := [5, 6]) (by kernel_rfl) (by simp) ?_
            refine AllReadyH.cons rfl (fun K hK => ?_) (AllReadyH.cons rfl (fun K hK => ?_) (AllReadyH.nil))
            · skip
              go_simp
              go_wp2_with ((go_at_call 26; go_loud (refine (HMY.out _ HK.out).mono ?_; rintro e wB ⟨yb, rfl, hma, hsa, hra, hk⟩; have hsz := hk.size; (try have HB9 := Lib.hid (HB9.out.keep hk (fun f => f))); (try have HB10 := Lib.hid (HB10.out.keep hk (fun f => f))); (try have YA := Lib.hid (YA.out.keepT hk (fun _ _ f => f))); (try have YB := Lib.hid (YB.out.keepT hk (fun _ _ f => f))); have YB := Lib.hid hra; have HMB := Lib.hid (And.intro hma hsa); have HK := Lib.hid (HK.out.trans hk (fun _ f => f.elim)); clear hma hsa hra hk)))
              refine hK.out _ _ ?_ (fun hHeld => ?_)
              · (try dsimp only); exact HCL.out _ HK.out
              clear hK K
              refine wpAnyH_ready (rs := [6]) (by kernel_rfl) (by simp) ?_
              refine AllReadyH.cons rfl (fun K hK => ?_) (AllReadyH.nil)
              rw [if_pos (by rfl)]
              (go_loud (refine step_alloc rfl alloc_sys ?_; intro g9 wa6 hga hk hb; have hsz := hk.size; (try have HB9 := Lib.hid (HB9.out.keep hk (fun f => f))); (try have HB10 := Lib.hid (HB10.out.keep hk (fun f => f))); (try have YA := Lib.hid (YA.out.keepT hk (fun _ _ f => f))); (try have YB := Lib.hid (YB.out.keepT hk (fun _ _ f => f))); have hgl := hb.lt; have HB9 := Lib.hid hb; have HK := Lib.hid (HK.out.trans hk (fun _ f => f.elim)); clear hk hb))
              refine hK.out _ _ ?_ (fun hHeld => ?_)
              · (try dsimp only); exact HCL.out _ HK.out
              clear hK K
              refine wpAnyH_ready (rs := [8]) (by kernel_rfl) (by simp) ?_
              refine AllReadyH.cons rfl (fun K hK => ?_) (AllReadyH.nil)
              rw [if_pos (by rfl)]
              (go_loud (refine step_store 35 _ _ rfl g9 (sysC ya.x) rfl rfl 35 _ HB9.out (by kernel_rfl) rfl (by kernel_rfl) ?_; intro ws8 hk hb; have hsz := hk.size; have HB10 := Lib.hid (HB10.out.keep hk (fun e => by omega)); have YA := Lib.hid (YA.out.keepT hk (fun z hz e => by have h1 := HSG.out z; rcases hz with hz | hz; (have := h1 hz; omega); omega)); have YB := Lib.hid (YB.out.keepT hk (fun z hz e => by have h1 := HSG.out z; rcases hz with hz | hz; (have := h1 hz; omega); omega)); have HB9 := Lib.hid hb; have HK := Lib.hid (HK.out.trans hk (fun z e => .inr (by omega))); clear hk hb))
              refine hK.out _ _ ?_ (fun hHeld => ?_)
              · (try dsimp only); exact HCL.out _ HK.out
              clear hK K
              refine wpAnyH_ready (rs := [9]) (by kernel_rfl) (by simp) ?_
              refine AllReadyH.cons rfl (fun K hK => ?_) (AllReadyH.nil)
              rw [if_pos (by rfl)]
              (go_loud (refine step_store 35 _ _ rfl g10 (sysC yb.x) rfl rfl 35 _ HB10.out (by kernel_rfl) rfl (by kernel_rfl) ?_; intro ws9 hk hb; have hsz := hk.size; have HB9 := Lib.hid (HB9.out.keep hk (fun e => by omega)); have YA := Lib.hid (YA.out.keepT hk (fun z hz e => by have h1 := HSG.out z; rcases hz with hz | hz; (have := h1 hz; omega); omega)); have YB := Lib.hid (YB.out.keepT hk (fun z hz e => by have h1 := HSG.out z; rcases hz with hz | hz; (have := h1 hz; omega); omega)); have HB10 := Lib.hid hb; have HK := Lib.hid (HK.out.trans hk (fun z e => .inr (by omega))); clear hk hb))
              refine hK.out _ _ ?_ (fun hHeld => ?_)
              · (try dsimp only); exact HCL.out _ HK.out
              clear hK K
              refine wpAnyH_done (by kernel_rfl) ?_ _
              go_wp2_with fail
              go_meet
              (case rel => exact ⟨g9, g10, ya, yb, rfl, rfl, HK.out, HB9.out, HB10.out, HMA.out, HMB.out, YA.out.tight.mono (fun z h => h.2), YB.out.tight.mono (fun z h => h.2)⟩)
            · skip
              rw [if_pos (by rfl)]
              (go_loud (refine step_alloc rfl alloc_sys ?_; intro g9 wa6 hga hk hb; have hsz := hk.size; (try have HB9 := Lib.hid (HB9.out.keep hk (fun f => f))); (try have HB10 := Lib.hid (HB10.out.keep hk (fun f => f))); (try have YA := Lib.hid (YA.out.keepT hk (fun _ _ f => f))); (try have YB := Lib.hid (YB.out.keepT hk (fun _ _ f => f))); have hgl := hb.lt; have HB9 := Lib.hid hb; have HK := Lib.hid (HK.out.trans hk (fun _ f => f.elim)); clear hk hb))
              refine hK.out _ _ ?_ (fun hHeld => ?_)
              · (try dsimp only); exact HCL.out _ HK.out
              clear hK K
              refine wpAnyH_ready (rs := [5]) (by kernel_rfl) (by simp) ?_
              refine AllReadyH.cons rfl (fun K hK => ?_) (AllReadyH.nil)
              go_simp
              go_wp2_with ((go_at_call 26; go_loud (refine (HMY.out _ HK.out).mono ?_; rintro e wB ⟨yb, rfl, hma, hsa, hra, hk⟩; have hsz := hk.size; (try have HB9 := Lib.hid (HB9.out.keep hk (fun f => f))); (try have HB10 := Lib.hid (HB10.out.keep hk (fun f => f))); (try have YA := Lib.hid (YA.out.keepT hk (fun _ _ f => f))); (try have YB := Lib.hid (YB.out.keepT hk (fun _ _ f => f))); have YB := Lib.hid hra; have HMB := Lib.hid (And.intro hma hsa); have HK := Lib.hid (HK.out.trans hk (fun _ f => f.elim)); clear hma hsa hra hk)))
              refine hK.out _ _ ?_ (fun hHeld => ?_)
              · (try dsimp only); exact HCL.out _ HK.out
              clear hK K
              refine wpAnyH_ready (rs := [8]) (by kernel_rfl) (by simp) ?_
              refine AllReadyH.cons rfl (fun K hK => ?_) (AllReadyH.nil)
              rw [if_pos (by rfl)]
              (go_loud (refine step_store 35 _ _ rfl g9 (sysC ya.x) rfl rfl 35 _ HB9.out (by kernel_rfl) rfl (by kernel_rfl) ?_; intro ws8 hk hb; have hsz := hk.size; have HB10 := Lib.hid (HB10.out.keep hk (fun e => by omega)); have YA := Lib.hid (YA.out.keepT hk (fun z hz e => by have h1 := HSG.out z; rcases hz with hz | hz; (have := h1 hz; omega); omega)); have YB := Lib.hid (YB.out.keepT hk (fun z hz e => by have h1 := HSG.out z; rcases hz with hz | hz; (have := h1 hz; omega); omega)); have HB9 := Lib.hid hb; have HK := Lib.hid (HK.out.trans hk (fun z e => .inr (by omega))); clear hk hb))
              refine hK.out _ _ ?_ (fun hHeld => ?_)
              · (try dsimp only); exact HCL.out _ HK.out
              clear hK K
              refine wpAnyH_ready (rs := [9]) (by kernel_rfl) (by simp) ?_
              refine AllReadyH.cons rfl (fun K hK => ?_) (AllReadyH.nil)
              rw [if_pos (by rfl)]
              (go_loud (refine step_store 35 _ _ rfl g10 (sysC yb.x) rfl rfl 35 _ HB10.out (by kernel_rfl) rfl (by kernel_rfl) ?_; intro ws9 hk hb; have hsz := hk.size; have HB9 := Lib.hid (HB9.out.keep hk (fun e => by omega)); have YA := Lib.hid (YA.out.keepT hk (fun z hz e => by have h1 := HSG.out z; rcases hz with hz | hz; (have := h1 hz; omega); omega)); have YB := Lib.hid (YB.out.keepT hk (fun z hz e => by have h1 := HSG.out z; rcases hz with hz | hz; (have := h1 hz; omega); omega)); have HB10 := Lib.hid hb; have HK := Lib.hid (HK.out.trans hk (fun z e => .inr (by omega))); clear hk hb))
              refine hK.out _ _ ?_ (fun hHeld => ?_)
              · (try dsimp only); exact HCL.out _ HK.out
              clear hK K
              refine wpAnyH_done (by kernel_rfl) ?_ _
              go_wp2_with fail
              go_meet
              (case rel => exact ⟨g9, g10, ya, yb, rfl, rfl, HK.out, HB9.out, HB10.out, HMA.out, HMB.out, YA.out.tight.mono (fun z h => h.2), YB.out.tight.mono (fun z h => h.2)⟩)
          · skip
            rw [if_pos (by rfl)]
            (go_loud (refine step_alloc rfl alloc_sys ?_; intro g9 wa6 hga hk hb; have hsz := hk.size; (try have HB9 := Lib.hid (HB9.out.keep hk (fun f => f))); (try have HB10 := Lib.hid (HB10.out.keep hk (fun f => f))); (try have YA := Lib.hid (YA.out.keepT hk (fun _ _ f => f))); (try have YB := Lib.hid (YB.out.keepT hk (fun _ _ f => f))); have hgl := hb.lt; have HB9 := Lib.hid hb; have HK := Lib.hid (HK.out.trans hk (fun _ f => f.elim)); clear hk hb))
            refine hK.out _ _ ?_ (fun hHeld => ?_)
            · (try dsimp only); exact HCL.out _ HK.out
            clear hK K
            refine wpAnyH_ready (rs := [2]) (by kernel_rfl) (by simp) ?_
            refine AllReadyH.cons rfl (fun K hK => ?_) (AllReadyH.nil)
            go_simp
            go_wp2_with ((go_at_call 26; go_loud (refine (HMX.out _ HK.out).mono ?_; rintro e wA ⟨ya, rfl, hma, hsa, hra, hk⟩; have hsz := hk.size; (try have HB9 := Lib.hid (HB9.out.keep hk (fun f => f))); (try have HB10 := Lib.hid (HB10.out.keep hk (fun f => f))); (try have YA := Lib.hid (YA.out.keepT hk (fun _ _ f => f))); (try have YB := Lib.hid (YB.out.keepT hk (fun _ _ f => f))); have YA := Lib.hid hra; have HMA := Lib.hid (And.intro hma hsa); have HK := Lib.hid (HK.out.trans hk (fun _ f => f.elim)); clear hma hsa hra hk)))
            refine hK.out _ _ ?_ (fun hHeld => ?_)
            · (try dsimp only); exact HCL.out _ HK.out
            clear hK K
            refine wpAnyH_ready (rs := [5]) (by kernel_rfl) (by simp) ?_
            refine AllReadyH.cons rfl (fun K hK => ?_) (AllReadyH.nil)
            go_simp
            go_wp2_with ((go_at_call 26; go_loud (refine (HMY.out _ HK.out).mono ?_; rintro e wB ⟨yb, rfl, hma, hsa, hra, hk⟩; have hsz := hk.size; (try have HB9 := Lib.hid (HB9.out.keep hk (fun f => f))); (try have HB10 := Lib.hid (HB10.out.keep hk (fun f => f))); (try have YA := Lib.hid (YA.out.keepT hk (fun _ _ f => f))); (try have YB := Lib.hid (YB.out.keepT hk (fun _ _ f => f))); have YB := Lib.hid hra; have HMB := Lib.hid (And.intro hma hsa); have HK := Lib.hid (HK.out.trans hk (fun _ f => f.elim)); clear hma hsa hra hk)))
            refine hK.out _ _ ?_ (fun hHeld => ?_)
            · (try dsimp only); exact HCL.out _ HK.out
            clear hK K
            refine wpAnyH_ready (rs := [8]) (by kernel_rfl) (by simp) ?_
            refine AllReadyH.cons rfl (fun K hK => ?_) (AllReadyH.nil)
            rw [if_pos (by rfl)]
            (go_loud (refine step_store 35 _ _ rfl g9 (sysC ya.x) rfl rfl 35 _ HB9.out (by kernel_rfl) rfl (by kernel_rfl) ?_; intro ws8 hk hb; have hsz := hk.size; have HB10 := Lib.hid (HB10.out.keep hk (fun e => by omega)); have YA := Lib.hid (YA.out.keepT hk (fun z hz e => by have h1 := HSG.out z; rcases hz with hz | hz; (have := h1 hz; omega); omega)); have YB := Lib.hid (YB.out.keepT hk (fun z hz e => by have h1 := HSG.out z; rcases hz with hz | hz; (have := h1 hz; omega); omega)); have HB9 := Lib.hid hb; have HK := Lib.hid (HK.out.trans hk (fun z e => .inr (by omega))); clear hk hb))
            refine hK.out _ _ ?_ (fun hHeld => ?_)
            · (try dsimp only); exact HCL.out _ HK.out
            clear hK K
            refine wpAnyH_ready (rs := [9]) (by kernel_rfl) (by simp) ?_
            refine AllReadyH.cons rfl (fun K hK => ?_) (AllReadyH.nil)
            rw [if_pos (by rfl)]
            (go_loud (refine step_store 35 _ _ rfl g10 (sysC yb.x) rfl rfl 35 _ HB10.out (by kernel_rfl) rfl (by kernel_rfl) ?_; intro ws9 hk hb; have hsz := hk.size; have HB9 := Lib.hid (HB9.out.keep hk (fun e => by omega)); have YA := Lib.hid (YA.out.keepT hk (fun z hz e => by have h1 := HSG.out z; rcases hz with hz | hz; (have := h1 hz; omega); omega)); have YB := Lib.hid (YB.out.keepT hk (fun z hz e => by have h1 := HSG.out z; rcases hz with hz | hz; (have := h1 hz; omega); omega)); have HB10 := Lib.hid hb; have HK := Lib.hid (HK.out.trans hk (fun z e => .inr (by omega))); clear hk hb))
            refine hK.out _ _ ?_ (fun hHeld => ?_)
            · (try dsimp only); exact HCL.out _ HK.out
            clear hK K
            refine wpAnyH_done (by kernel_rfl) ?_ _
            go_wp2_with fail
            go_meet
            (case rel => exact ⟨g9, g10, ya, yb, rfl, rfl, HK.out, HB9.out, HB10.out, HMA.out, HMB.out, YA.out.tight.mono (fun z h => h.2), YB.out.tight.mono (fun z h => h.2)⟩)
      case rest =>
        obtain ⟨ga, gb, ya, yb, rfl, rfl, hkc, hba, hbb, ⟨hma, hsa⟩, ⟨hmb, hsb⟩, hra, hrb⟩ := hcut
        have HKC := Lib.hid hkc
        have HBA := Lib.hid hba
        have HBB := Lib.hid hbb
        have HMA := Lib.hid hma
        have HMB := Lib.hid hmb
        have HRA := Lib.hid hra
        have HRB := Lib.hid hrb
        have HSA := Lib.hid hsa
        have HSB := Lib.hid hsb
        have HB3 := Lib.hid (H1.out.blk 3 rfl)
        clear hkc hba hbb hma hmb hra hrb hsa hsb HMX HMY HCL HK HSG
        obtain ⟨yax, pll, cdl⟩ := ya
        obtain ⟨ybx, pll2, cdl2⟩ := yb
        obtain ⟨⟨ra, rc, rl⟩, ⟨wa, wcp, wl⟩, ⟨rra, rrc, rrl⟩, ⟨rwa, rwc, rwl⟩, al, ⟨pla, pln, plc⟩, ⟨cda, cdn, cdc⟩, ⟨afa, afc, afl⟩⟩ := yax
        obtain ⟨⟨ra2, rc2, rl2⟩, ⟨wa2, wcp2, wl2⟩, ⟨rra2, rrc2, rrl2⟩, ⟨rwa2, rwc2, rwl2⟩, al2, ⟨pla2, pln2, plc2⟩, ⟨cda2, cdn2, cdc2⟩, ⟨afa2, afc2, afl2⟩⟩ := ybx
        have a0 := HBA.out.cell 0
        have a1 := HBA.out.cell 1
        have a2 := HBA.out.cell 2
        have a3 := HBA.out.cell 3
        have a4 := HBA.out.cell 4
        have a5 := HBA.out.cell 5
        have a6 := HBA.out.cell 6
        have a7 := HBA.out.cell 7
        simp [sysC, RowV.v, SlV.v] at a0 a1 a2 a3 a4 a5 a6 a7
        go_upto_region 10 with (fail)
        have h2 := (St.start wc).box #[.slice ra rl.length rc, .slice wa wl.length wcp, .slice rra rrl.length rrc, .slice rwa rwl.length rwc, .bool al, .slice pla pln plc, .slice cda cdn cdc, .slice afa afl.length afc] 35
        obtain ⟨wd, hwd⟩ : ∃ wd, wd = wc.alloc (.cells #[.slice ra rl.length rc, .slice wa wl.length wcp, .slice rra rrl.length rrc, .slice rwa rwl.length rwc, .bool al, .slice pla pln plc, .slice cda cdn cdc, .slice afa afl.length afc] 35) := ⟨_, rfl⟩
        rw [← hwd] at h2 ⊢
        obtain ⟨gl, hgl⟩ : ∃ g, g = wc.heap.size := ⟨_, rfl⟩
        rw [← hgl] at h2 ⊢
        have H2 := Lib.hid (show St wc wd [blkA gl #[.slice ra rl.length rc, .slice wa wl.length wcp, .slice rra rrl.length rrc, .slice rwa rwl.length rwc, .bool al, .slice pla pln plc, .slice cda cdn cdc, .slice afa afl.length afc] 35] from h2)
        clear hwd h2 hgl a0 a1 a2 a3 a4 a5 a6 a7
        have hb4 := (H2.out.blk 0 rfl).keep ((Keep.refl wd Nope).alloc (.cells #[.int .i64 0, .int .i64 1] 3)) (fun f => f)
        have q1 := hb4.cell 1
        have q3 := hb4.cell 3
        have q4 := hb4.cell 4
        have f1 := hb4.frozen 1
        have f3 := hb4.frozen 3
        have f4 := hb4.frozen 4
        have e1 : (#[.slice ra rl.length rc, .slice wa wl.length wcp, .slice rra rrl.length rrc, .slice rwa rwl.length rwc, .bool al, .slice pla pln plc, .slice cda cdn cdc, .slice afa afl.length afc] : Array Value)[1]? = some (.slice wa wl.length wcp) := rfl
        rw [e1] at q1
        rw [show (#[.slice ra rl.length rc, .slice wa wl.length wcp, .slice rra rrl.length rrc, .slice rwa rwl.length rwc, .bool al, .slice pla pln plc, .slice cda cdn cdc, .slice afa afl.length afc] : Array Value)[3]? = some (.slice rwa rwl.length rwc) from rfl] at q3
        rw [show (#[.slice ra rl.length rc, .slice wa wl.length wcp, .slice rra rrl.length rrc, .slice rwa rwl.length rwc, .bool al, .slice pla pln plc, .slice cda cdn cdc, .slice afa afl.length afc] : Array Value)[4]? = some (.bool al) from rfl] at q4
        go_upto_region 11 with (fail)
        have h3 := (((((H2.out.lit 3 1 2 #[.int .i64 0, .int .i64 1] (by decide) rfl).write 0 rfl 1 (.slice none 0 0)).write 0 rfl 3 (.slice (some ⟨wd.heap.size, 0, none⟩) 2 2)).write 0 rfl 4 (.bool true))).add (Keep.refl _ _) (A := slA 3 1 (.slice none 0 0) 0 (ints (rangeI 0))) (Own.nil _ _ _ _)
        obtain ⟨gw, hgw⟩ : ∃ g, g = wd.heap.size := ⟨_, rfl⟩
        rw [← hgw] at h3 ⊢
        obtain ⟨we, hwe⟩ : ∃ we, we = (((wd.alloc (.cells #[.int .i64 0, .int .i64 1] 3)).setCell ⟨gl, 1, none⟩ (.slice none 0 0)).setCell ⟨gl, 3, none⟩ (.slice (some ⟨gw, 0, none⟩) 2 2)).setCell ⟨gl, 4, none⟩ (.bool true) := ⟨_, rfl⟩
        rw [← hwe] at h3 ⊢
        have H3 := Lib.hid (show St wc we [blkA gl #[.slice ra rl.length rc, .slice none 0 0, .slice rra rrl.length rrc, .slice (some ⟨gw, 0, none⟩) 2 2, .bool true, .slice pla pln plc, .slice cda cdn cdc, .slice afa afl.length afc] 35, slA 3 1 (.slice (some ⟨gw, 0, none⟩) 2 2) 2 (ints [0, 1]), slA 3 1 (.slice none 0 0) 0 (ints (rangeI 0))] from h3)
        clear hwe h3 hgw q1 q3 q4 f1 f3 f4 hb4 e1 H2
        have HB3c := Lib.hid (HB3.out.keep HKC.out (fun f => f))
        have HRDc := Lib.hid ((HRD.out.keep HKC.out (fun _ _ f => f)).all)
        have HKWC := Lib.hid (HKW.out.trans HKC.out (fun _ f => f.elim))
        clear HB3 HRD HKW HKC H1
        go_wp2_with fail
        go_loopg [12] N (fun g v12 wz => LoopD2 wc gl gw (.slice ra rl.length rc) (.slice rra rrl.length rrc) (.slice pla pln plc) (.slice cda cdn cdc) (.slice afa afl.length afc) N g v12 wz)
        case atStart => exact ⟨0, none, 0, by omega, rfl, H3.out⟩
        case round =>
          obtain ⟨i, a9, c9, hg, rfl, hst⟩ := hrel
          clear H3
          have HG2 := Lib.hid hg
          have hiN : i ≤ N := by omega
          have H4 := Lib.hid (show St wc wr [blkA gl #[.slice ra rl.length rc, .slice a9 i c9, .slice rra rrl.length rrc, .slice (some ⟨gw, 0, none⟩) 2 2, .bool true, .slice pla pln plc, .slice cda cdn cdc, .slice afa afl.length afc] 35, slA 3 1 (.slice (some ⟨gw, 0, none⟩) 2 2) 2 (ints [0, 1]), slA 3 1 (.slice a9 i c9) i (ints (rangeI i))] from hst)
          clear hg hst
          have s1 := (H4.out.blk 0 rfl).cell 1
          simp at s1
          by_cases hlt : i < N
          · have hI : (i : Int) < N := by omega
            have hId : decide ((i : Int) < N) = true := decide_eq_true hI
            obtain ⟨G, hown, _, hup, _⟩ := H4.out.opens 2 rfl
            have HOwn := Lib.hid (show Own G wr 3 1 (.slice a9 i c9) i (ints (rangeI i)) from hown)
            have HUP := Lib.hid hup
            clear hown hup
            go_wp2_with (at_builtin; go_loud (refine wpList_app (P := Try.prog) slInt rfl _ _ rfl (S := G) (S2 := fun z => z = wr.heap.size) (n := i) (xs := ints (rangeI i)) (m := 1) (news := ints [(i : Int)]) rfl rfl ?_ (rd_one wr i) rfl (ints_one _) (by omega) (by unfold maxLen; omega) ?_; (· exact HOwn.out.keep (T := Nope) ((Keep.refl wr Nope).alloc _) (fun _ _ f => f)); rintro a' k' c' w5 happ; obtain ⟨z1, z2⟩ := app_up (wr := wr) ((Keep.refl wr Nope).alloc _) happ; obtain rfl := happ.num; have h5 := HUP.out w5 _ z1 z2; rw [← ints_app, ← rangeI_succ] at h5; have H5 := Lib.hid (show St wc w5 [blkA gl #[.slice ra rl.length rc, .slice a9 i c9, .slice rra rrl.length rrc, .slice (some ⟨gw, 0, none⟩) 2 2, .bool true, .slice pla pln plc, .slice cda cdn cdc, .slice afa afl.length afc] 35, slA 3 1 (.slice (some ⟨gw, 0, none⟩) 2 2) 2 (ints [0, 1]), slA 3 1 (.slice a' (i + 1) c') (i + 1) (ints (rangeI (i + 1)))] from h5); have q1 := (H5.out.blk 0 rfl).cell 1; have f1 := (H5.out.blk 0 rfl).frozen 1; simp at q1; have H6 := Lib.hid (H5.out.write 0 rfl 1 (.slice a' (i + 1) c')); clear happ z1 z2 h5 s1))
            go_roundg (N - (i + 1))
            case measure => have := HG2.out; omega
            case rel => exact ⟨i + 1, a', c', by have := HG2.out; omega, by go_num, H6.out⟩
          · obtain rfl : N = i := by omega
            go_upto_region 15 with (fail)
            have hk4 : Keep wc wr Nope := Keep.ofSt H4.out
            obtain ⟨G2, _, hrw2, _⟩ := H4.out.rd 1 rfl
            obtain ⟨G3, _, hrw3, _⟩ := H4.out.rd 2 rfl
            obtain ⟨xa, hxa'⟩ : ∃ z : SysX, z = ⟨⟨ra, rc, rl⟩, ⟨wa, wcp, wl⟩, ⟨rra, rrc, rrl⟩, ⟨rwa, rwc, rwl⟩, al, ⟨pla, pln, plc⟩, ⟨cda, cdn, cdc⟩, ⟨afa, afc, afl⟩⟩ := ⟨_, rfl⟩
            obtain ⟨xb, hxb'⟩ : ∃ z : SysX, z = ⟨⟨ra2, rc2, rl2⟩, ⟨wa2, wcp2, wl2⟩, ⟨rra2, rrc2, rrl2⟩, ⟨rwa2, rwc2, rwl2⟩, al2, ⟨pla2, pln2, plc2⟩, ⟨cda2, cdn2, cdc2⟩, ⟨afa2, afc2, afl2⟩⟩ := ⟨_, rfl⟩
            obtain ⟨xl, hxl⟩ : ∃ z : SysX, z = ⟨⟨ra, rc, rl⟩, ⟨a9, c9, rangeI N⟩, ⟨rra, rrc, rrl⟩, ⟨some ⟨gw, 0, none⟩, 2, [0, 1]⟩, true, ⟨pla, pln, plc⟩, ⟨cda, cdn, cdc⟩, ⟨afa, afc, afl⟩⟩ := ⟨_, rfl⟩
            have hml : MoreX N xa xl := by rw [hxa', hxl]; exact ⟨rfl, rfl, rfl, rfl, rfl⟩
            have hma : MadeOk (List.replicate N dPH) 2 ⟨xa, pll, cdl⟩ := by rw [hxa']; exact HMA.out
            have hmb : MadeOk (List.replicate N dPH) 2 ⟨xb, pll2, cdl2⟩ := by rw [hxb']; exact HMB.out
            have hua : SysRd (fun _ => True) wr ⟨xa, pll, cdl⟩ := by rw [hxa']; exact (HRA.out.keep0 hk4).mono (fun _ _ => trivial)
            have hub : SysRd (fun _ => True) wr ⟨xb, pll2, cdl2⟩ := by rw [hxb']; exact (HRB.out.keep0 hk4).mono (fun _ _ => trivial)
            have hul : SysRd (fun _ => True) wr ⟨xl, pll, cdl⟩ := by
              rw [hxl]
              obtain ⟨⟨h1, h2, h3, h4⟩, h5, h6⟩ := (HRA.out.keep0 hk4).mono (T := fun _ => True) (fun _ _ => trivial)
              exact ⟨⟨h1, (show Rd _ wr (.slice a9 (rangeI N).length c9) (rangeI N).length (ints (rangeI N)) from by rw [rangeI_len]; exact hrw3.all), h3, hrw2.all⟩, h5, h6⟩
            have hdl : ((List.replicate N dPH)).length = N := by simp
            have e0 : sysE (List.replicate N dPH) 2 ⟨xl, pll, cdl⟩ = 0 := more_check hdl hma hml
            obtain ⟨c1, hc1⟩ : ∃ b, confB xa xb = b := ⟨_, rfl⟩
            obtain ⟨c2, hc2⟩ : ∃ b, confB xl xb = b := ⟨_, rfl⟩
            obtain ⟨n1, hn1⟩ : ∃ n, rl2.length = n := ⟨_, rfl⟩
            obtain ⟨n2, hn2⟩ : ∃ n, wl2.length = n := ⟨_, rfl⟩
            obtain ⟨n3, hn3⟩ : ∃ n, rrl2.length = n := ⟨_, rfl⟩
            obtain ⟨n4, hn4⟩ : ∃ n, rwl2.length = n := ⟨_, rfl⟩
            have h12 : c1 = true → c2 = true := fun h => by
              rw [← hc2]
              exact more_conf hdl hma hml xb (by rw [← h, ← hc1])
            have hz : c2 = false → n1 = 0 ∧ n2 = 0 ∧ n3 = 0 ∧ n4 = 0 ∧ al2 = false := fun h => by
              have h9 := more_all (y := ⟨xa, pll, cdl⟩) hdl hmb hml (by rw [← h, ← hc2])
              rw [hxb'] at h9
              obtain ⟨e1, e2, e3, e4, e5⟩ := h9
              refine ⟨?_, ?_, ?_, ?_, e5⟩
              · rw [← hn1, show rl2 = [] from e1]; rfl
              · rw [← hn2, show wl2 = [] from e2]; rfl
              · rw [← hn3, show rrl2 = [] from e3]; rfl
              · rw [← hn4, show rwl2 = [] from e4]; rfl
            have C1 := Lib.hid (fun wq (hk : Keep wr wq Nope) => (show Calls Try.prog 27 #[.agg #[.int .i64 5, .int .i64 5, .slice a N c, .slice (some ⟨g2, 0, none⟩) 2 2], .agg #[.slice ra rl.length rc, .slice a9 N c9, .slice rra rrl.length rrc, .slice (some ⟨gw, 0, none⟩) 2 2, .bool true, .slice pla pln plc, .slice cda cdn cdc, .slice afa afl.length afc]] wq (Ret wq (.int .i64 0)) from by
              have h := sys_Check ⟨5, 5, a, c, (List.replicate N dPH), some ⟨g2, 0, none⟩, 2, 2⟩ ⟨xl, pll, cdl⟩ wq (fun _ => True) (hul.keep0 hk) (HRDc.out.keep (hk4.trans hk (fun _ f => f.elim)) (fun _ _ f => f))
                (by rw [hxl]; show rl.length + (rangeI N).length ≤ 100000; rw [rangeI_len]; have : rl.length ≤ 10000 := HSA.out.1; omega)
                (by rw [hxl]; show rrl.length + 2 ≤ 100000; have : rrl.length ≤ 10000 := HSA.out.2.2.1; omega)
              simp only [e0] at h
              rw [hxl] at h
              simp only [CfgV.val, SysX.val, RowV.v, SlV.v, rangeI_len, hn1, hn2, hn3, hn4, List.length_replicate] at h
              exact h))
            have C2 := Lib.hid (fun wq (hk : Keep wr wq Nope) => (show Calls Try.prog 25 #[.agg #[.slice ra rl.length rc, .slice wa wl.length wcp, .slice rra rrl.length rrc, .slice rwa rwl.length rwc, .bool al, .slice pla pln plc, .slice cda cdn cdc, .slice afa afl.length afc], .agg #[.slice ra2 n1 rc2, .slice wa2 n2 wcp2, .slice rra2 n3 rrc2, .slice rwa2 n4 rwc2, .bool al2, .slice pla2 pln2 plc2, .slice cda2 cdn2 cdc2, .slice afa2 afl2.length afc2]] wq (Ret wq (.bool c1)) from by
              have h := sys_conflict xa xb wq (fun _ => True) (hua.use.keep0 hk) (hub.use.keep0 hk)
              rw [hc1, hxa', hxb'] at h
              simp only [SysX.val, RowV.v, SlV.v, rangeI_len, hn1, hn2, hn3, hn4] at h
              exact h))
            have C3 := Lib.hid (fun wq (hk : Keep wr wq Nope) => (show Calls Try.prog 25 #[.agg #[.slice ra rl.length rc, .slice a9 N c9, .slice rra rrl.length rrc, .slice (some ⟨gw, 0, none⟩) 2 2, .bool true, .slice pla pln plc, .slice cda cdn cdc, .slice afa afl.length afc], .agg #[.slice ra2 n1 rc2, .slice wa2 n2 wcp2, .slice rra2 n3 rrc2, .slice rwa2 n4 rwc2, .bool al2, .slice pla2 pln2 plc2, .slice cda2 cdn2 cdc2, .slice afa2 afl2.length afc2]] wq (Ret wq (.bool c2)) from by
              have h := sys_conflict xl xb wq (fun _ => True) (hul.use.keep0 hk) (hub.use.keep0 hk)
              rw [hc2, hxl, hxb'] at h
              simp only [SysX.val, RowV.v, SlV.v, rangeI_len, hn1, hn2, hn3, hn4] at h
              exact h))
            have C4 := Lib.hid C3.out
            have hba : Blk wr ga #[.slice ra rl.length rc, .slice wa wl.length wcp, .slice rra rrl.length rrc, .slice rwa rwl.length rwc, .bool al, .slice pla pln plc, .slice cda cdn cdc, .slice afa afl.length afc] 35 := HBA.out.keep hk4 (fun f => f)
            have hbb : Blk wr gb #[.slice ra2 n1 rc2, .slice wa2 n2 wcp2, .slice rra2 n3 rrc2, .slice rwa2 n4 rwc2, .bool al2, .slice pla2 pln2 plc2, .slice cda2 cdn2 cdc2, .slice afa2 afl2.length afc2] 35 := by
              have h := HBB.out.keep hk4 (fun f => f)
              simp only [sysC, RowV.v, SlV.v, hn1, hn2, hn3, hn4] at h
              exact h
            have hbc : Blk wr g3 #[.int .i64 5, .int .i64 5, .slice a N c, .slice (some ⟨g2, 0, none⟩) 2 2] 56 := HB3c.out.keep hk4 (fun f => f)
            have hbl : Blk wr gl #[.slice ra rl.length rc, .slice a9 N c9, .slice rra rrl.length rrc, .slice (some ⟨gw, 0, none⟩) 2 2, .bool true, .slice pla pln plc, .slice cda cdn cdc, .slice afa afl.length afc] 35 := H4.out.blk 0 rfl
            have HCL := Lib.hid (fun wq (hk : Keep wr wq Nope) => And.intro (hbc.keep hk (fun f => f)) (And.intro (hbl.keep hk (fun f => f)) (And.intro (hba.keep hk (fun f => f)) (hbb.keep hk (fun f => f)))))
            have HK9 := Lib.hid (HKWC.out.trans hk4 (fun _ f => f.elim))
            have KK := Lib.hid (Keep.refl wr Nope)
            have hcase : (c1 = false ∧ c2 = false) ∨ (c1 = false ∧ c2 = true) ∨ (c1 = true ∧ c2 = true) := by
              cases c1
              · cases c2
                · exact .inl ⟨rfl, rfl⟩
                · exact .inr (.inl ⟨rfl, rfl⟩)
              · exact .inr (.inr ⟨rfl, h12 rfl⟩)
            clear hbl hbc hbb hba hn1 hn2 hn3 hn4 h12 e0 hdl hul hub hua hmb hma hml hrw2 hrw3 hk4 H4 HBA HBB HMA HMB HRA HRB HSA HSB HB3c HRDc HKWC s1 hc1 hc2 hxa' hxb' hxl
            rcases hcase with ⟨rfl, rfl⟩ | ⟨rfl, rfl⟩ | ⟨rfl, rfl⟩
            · obtain ⟨rfl, rfl, rfl, rfl, rfl⟩ := hz rfl
              have k0 := (HCL.out wr KK.out).1.cell 0; have k1 := (HCL.out wr KK.out).1.cell 1; have k2 := (HCL.out wr KK.out).1.cell 2; have k3 := (HCL.out wr KK.out).1.cell 3; have l0 := (HCL.out wr KK.out).2.1.cell 0; have l1 := (HCL.out wr KK.out).2.1.cell 1; have l2 := (HCL.out wr KK.out).2.1.cell 2; have l3 := (HCL.out wr KK.out).2.1.cell 3; have l4 := (HCL.out wr KK.out).2.1.cell 4; have l5 := (HCL.out wr KK.out).2.1.cell 5; have l6 := (HCL.out wr KK.out).2.1.cell 6; have l7 := (HCL.out wr KK.out).2.1.cell 7; have p0 := (HCL.out wr KK.out).2.2.1.cell 0; have p1 := (HCL.out wr KK.out).2.2.1.cell 1; have p2 := (HCL.out wr KK.out).2.2.1.cell 2; have p3 := (HCL.out wr KK.out).2.2.1.cell 3; have p4 := (HCL.out wr KK.out).2.2.1.cell 4; have p5 := (HCL.out wr KK.out).2.2.1.cell 5; have p6 := (HCL.out wr KK.out).2.2.1.cell 6; have p7 := (HCL.out wr KK.out).2.2.1.cell 7; have q0 := (HCL.out wr KK.out).2.2.2.cell 0; have q1 := (HCL.out wr KK.out).2.2.2.cell 1; have q2 := (HCL.out wr KK.out).2.2.2.cell 2; have q3 := (HCL.out wr KK.out).2.2.2.cell 3; have q4 := (HCL.out wr KK.out).2.2.2.cell 4; have q5 := (HCL.out wr KK.out).2.2.2.cell 5; have q6 := (HCL.out wr KK.out).2.2.2.cell 6; have q7 := (HCL.out wr KK.out).2.2.2.cell 7; simp at k0 k1 k2 k3 l0 l1 l2 l3 l4 l5 l6 l7 p0 p1 p2 p3 p4 p5 p6 p7 q0 q1 q2 q3 q4 q5 q6 q7
              go_wp2_with (first | (go_at_call 27; refine (C1.out _ KK.out).mono ?_; rintro e w1 ⟨rfl, hk⟩; have KK := Lib.hid (KK.out.trans hk (fun _ f => f.elim)); clear hk C1 k0 k1 k2 k3 l0 l1 l2 l3 l4 l5 l6 l7 p0 p1 p2 p3 p4 p5 p6 p7 q0 q1 q2 q3 q4 q5 q6 q7; have k0 := (HCL.out w1 KK.out).1.cell 0; have k1 := (HCL.out w1 KK.out).1.cell 1; have k2 := (HCL.out w1 KK.out).1.cell 2; have k3 := (HCL.out w1 KK.out).1.cell 3; have l0 := (HCL.out w1 KK.out).2.1.cell 0; have l1 := (HCL.out w1 KK.out).2.1.cell 1; have l2 := (HCL.out w1 KK.out).2.1.cell 2; have l3 := (HCL.out w1 KK.out).2.1.cell 3; have l4 := (HCL.out w1 KK.out).2.1.cell 4; have l5 := (HCL.out w1 KK.out).2.1.cell 5; have l6 := (HCL.out w1 KK.out).2.1.cell 6; have l7 := (HCL.out w1 KK.out).2.1.cell 7; have p0 := (HCL.out w1 KK.out).2.2.1.cell 0; have p1 := (HCL.out w1 KK.out).2.2.1.cell 1; have p2 := (HCL.out w1 KK.out).2.2.1.cell 2; have p3 := (HCL.out w1 KK.out).2.2.1.cell 3; have p4 := (HCL.out w1 KK.out).2.2.1.cell 4; have p5 := (HCL.out w1 KK.out).2.2.1.cell 5; have p6 := (HCL.out w1 KK.out).2.2.1.cell 6; have p7 := (HCL.out w1 KK.out).2.2.1.cell 7; have q0 := (HCL.out w1 KK.out).2.2.2.cell 0; have q1 := (HCL.out w1 KK.out).2.2.2.cell 1; have q2 := (HCL.out w1 KK.out).2.2.2.cell 2; have q3 := (HCL.out w1 KK.out).2.2.2.cell 3; have q4 := (HCL.out w1 KK.out).2.2.2.cell 4; have q5 := (HCL.out w1 KK.out).2.2.2.cell 5; have q6 := (HCL.out w1 KK.out).2.2.2.cell 6; have q7 := (HCL.out w1 KK.out).2.2.2.cell 7; simp at k0 k1 k2 k3 l0 l1 l2 l3 l4 l5 l6 l7 p0 p1 p2 p3 p4 p5 p6 p7 q0 q1 q2 q3 q4 q5 q6 q7) | (go_at_call 25; refine (C2.out _ KK.out).mono ?_; rintro e w2 ⟨rfl, hk⟩; have KK := Lib.hid (KK.out.trans hk (fun _ f => f.elim)); clear hk C2 k0 k1 k2 k3 l0 l1 l2 l3 l4 l5 l6 l7 p0 p1 p2 p3 p4 p5 p6 p7 q0 q1 q2 q3 q4 q5 q6 q7; have k0 := (HCL.out w2 KK.out).1.cell 0; have k1 := (HCL.out w2 KK.out).1.cell 1; have k2 := (HCL.out w2 KK.out).1.cell 2; have k3 := (HCL.out w2 KK.out).1.cell 3; have l0 := (HCL.out w2 KK.out).2.1.cell 0; have l1 := (HCL.out w2 KK.out).2.1.cell 1; have l2 := (HCL.out w2 KK.out).2.1.cell 2; have l3 := (HCL.out w2 KK.out).2.1.cell 3; have l4 := (HCL.out w2 KK.out).2.1.cell 4; have l5 := (HCL.out w2 KK.out).2.1.cell 5; have l6 := (HCL.out w2 KK.out).2.1.cell 6; have l7 := (HCL.out w2 KK.out).2.1.cell 7; have p0 := (HCL.out w2 KK.out).2.2.1.cell 0; have p1 := (HCL.out w2 KK.out).2.2.1.cell 1; have p2 := (HCL.out w2 KK.out).2.2.1.cell 2; have p3 := (HCL.out w2 KK.out).2.2.1.cell 3; have p4 := (HCL.out w2 KK.out).2.2.1.cell 4; have p5 := (HCL.out w2 KK.out).2.2.1.cell 5; have p6 := (HCL.out w2 KK.out).2.2.1.cell 6; have p7 := (HCL.out w2 KK.out).2.2.1.cell 7; have q0 := (HCL.out w2 KK.out).2.2.2.cell 0; have q1 := (HCL.out w2 KK.out).2.2.2.cell 1; have q2 := (HCL.out w2 KK.out).2.2.2.cell 2; have q3 := (HCL.out w2 KK.out).2.2.2.cell 3; have q4 := (HCL.out w2 KK.out).2.2.2.cell 4; have q5 := (HCL.out w2 KK.out).2.2.2.cell 5; have q6 := (HCL.out w2 KK.out).2.2.2.cell 6; have q7 := (HCL.out w2 KK.out).2.2.2.cell 7; simp at k0 k1 k2 k3 l0 l1 l2 l3 l4 l5 l6 l7 p0 p1 p2 p3 p4 p5 p6 p7 q0 q1 q2 q3 q4 q5 q6 q7) | (go_at_call 25; refine (C3.out _ KK.out).mono ?_; rintro e w3 ⟨rfl, hk⟩; have KK := Lib.hid (KK.out.trans hk (fun _ f => f.elim)); clear hk C3 k0 k1 k2 k3 l0 l1 l2 l3 l4 l5 l6 l7 p0 p1 p2 p3 p4 p5 p6 p7 q0 q1 q2 q3 q4 q5 q6 q7; have k0 := (HCL.out w3 KK.out).1.cell 0; have k1 := (HCL.out w3 KK.out).1.cell 1; have k2 := (HCL.out w3 KK.out).1.cell 2; have k3 := (HCL.out w3 KK.out).1.cell 3; have l0 := (HCL.out w3 KK.out).2.1.cell 0; have l1 := (HCL.out w3 KK.out).2.1.cell 1; have l2 := (HCL.out w3 KK.out).2.1.cell 2; have l3 := (HCL.out w3 KK.out).2.1.cell 3; have l4 := (HCL.out w3 KK.out).2.1.cell 4; have l5 := (HCL.out w3 KK.out).2.1.cell 5; have l6 := (HCL.out w3 KK.out).2.1.cell 6; have l7 := (HCL.out w3 KK.out).2.1.cell 7; have p0 := (HCL.out w3 KK.out).2.2.1.cell 0; have p1 := (HCL.out w3 KK.out).2.2.1.cell 1; have p2 := (HCL.out w3 KK.out).2.2.1.cell 2; have p3 := (HCL.out w3 KK.out).2.2.1.cell 3; have p4 := (HCL.out w3 KK.out).2.2.1.cell 4; have p5 := (HCL.out w3 KK.out).2.2.1.cell 5; have p6 := (HCL.out w3 KK.out).2.2.1.cell 6; have p7 := (HCL.out w3 KK.out).2.2.1.cell 7; have q0 := (HCL.out w3 KK.out).2.2.2.cell 0; have q1 := (HCL.out w3 KK.out).2.2.2.cell 1; have q2 := (HCL.out w3 KK.out).2.2.2.cell 2; have q3 := (HCL.out w3 KK.out).2.2.2.cell 3; have q4 := (HCL.out w3 KK.out).2.2.2.cell 4; have q5 := (HCL.out w3 KK.out).2.2.2.cell 5; have q6 := (HCL.out w3 KK.out).2.2.2.cell 6; have q7 := (HCL.out w3 KK.out).2.2.2.cell 7; simp at k0 k1 k2 k3 l0 l1 l2 l3 l4 l5 l6 l7 p0 p1 p2 p3 p4 p5 p6 p7 q0 q1 q2 q3 q4 q5 q6 q7) | (go_at_call 24; refine (awake21 _).mono ?_; rintro e w9 ⟨rfl, hk⟩; have KK := Lib.hid (KK.out.trans hk (fun _ f => f.elim)); clear hk))
              go_ret
              exact ⟨rfl, HK9.out.trans KK.out (fun _ f => f.elim)⟩
            all_goals
              have k0 := (HCL.out wr KK.out).1.cell 0; have k1 := (HCL.out wr KK.out).1.cell 1; have k2 := (HCL.out wr KK.out).1.cell 2; have k3 := (HCL.out wr KK.out).1.cell 3; have l0 := (HCL.out wr KK.out).2.1.cell 0; have l1 := (HCL.out wr KK.out).2.1.cell 1; have l2 := (HCL.out wr KK.out).2.1.cell 2; have l3 := (HCL.out wr KK.out).2.1.cell 3; have l4 := (HCL.out wr KK.out).2.1.cell 4; have l5 := (HCL.out wr KK.out).2.1.cell 5; have l6 := (HCL.out wr KK.out).2.1.cell 6; have l7 := (HCL.out wr KK.out).2.1.cell 7; have p0 := (HCL.out wr KK.out).2.2.1.cell 0; have p1 := (HCL.out wr KK.out).2.2.1.cell 1; have p2 := (HCL.out wr KK.out).2.2.1.cell 2; have p3 := (HCL.out wr KK.out).2.2.1.cell 3; have p4 := (HCL.out wr KK.out).2.2.1.cell 4; have p5 := (HCL.out wr KK.out).2.2.1.cell 5; have p6 := (HCL.out wr KK.out).2.2.1.cell 6; have p7 := (HCL.out wr KK.out).2.2.1.cell 7; have q0 := (HCL.out wr KK.out).2.2.2.cell 0; have q1 := (HCL.out wr KK.out).2.2.2.cell 1; have q2 := (HCL.out wr KK.out).2.2.2.cell 2; have q3 := (HCL.out wr KK.out).2.2.2.cell 3; have q4 := (HCL.out wr KK.out).2.2.2.cell 4; have q5 := (HCL.out wr KK.out).2.2.2.cell 5; have q6 := (HCL.out wr KK.out).2.2.2.cell 6; have q7 := (HCL.out wr KK.out).2.2.2.cell 7; simp at k0 k1 k2 k3 l0 l1 l2 l3 l4 l5 l6 l7 p0 p1 p2 p3 p4 p5 p6 p7 q0 q1 q2 q3 q4 q5 q6 q7
              go_wp2_with (first | (go_at_call 27; refine (C1.out _ KK.out).mono ?_; rintro e w1 ⟨rfl, hk⟩; have KK := Lib.hid (KK.out.trans hk (fun _ f => f.elim)); clear hk C1 k0 k1 k2 k3 l0 l1 l2 l3 l4 l5 l6 l7 p0 p1 p2 p3 p4 p5 p6 p7 q0 q1 q2 q3 q4 q5 q6 q7; have k0 := (HCL.out w1 KK.out).1.cell 0; have k1 := (HCL.out w1 KK.out).1.cell 1; have k2 := (HCL.out w1 KK.out).1.cell 2; have k3 := (HCL.out w1 KK.out).1.cell 3; have l0 := (HCL.out w1 KK.out).2.1.cell 0; have l1 := (HCL.out w1 KK.out).2.1.cell 1; have l2 := (HCL.out w1 KK.out).2.1.cell 2; have l3 := (HCL.out w1 KK.out).2.1.cell 3; have l4 := (HCL.out w1 KK.out).2.1.cell 4; have l5 := (HCL.out w1 KK.out).2.1.cell 5; have l6 := (HCL.out w1 KK.out).2.1.cell 6; have l7 := (HCL.out w1 KK.out).2.1.cell 7; have p0 := (HCL.out w1 KK.out).2.2.1.cell 0; have p1 := (HCL.out w1 KK.out).2.2.1.cell 1; have p2 := (HCL.out w1 KK.out).2.2.1.cell 2; have p3 := (HCL.out w1 KK.out).2.2.1.cell 3; have p4 := (HCL.out w1 KK.out).2.2.1.cell 4; have p5 := (HCL.out w1 KK.out).2.2.1.cell 5; have p6 := (HCL.out w1 KK.out).2.2.1.cell 6; have p7 := (HCL.out w1 KK.out).2.2.1.cell 7; have q0 := (HCL.out w1 KK.out).2.2.2.cell 0; have q1 := (HCL.out w1 KK.out).2.2.2.cell 1; have q2 := (HCL.out w1 KK.out).2.2.2.cell 2; have q3 := (HCL.out w1 KK.out).2.2.2.cell 3; have q4 := (HCL.out w1 KK.out).2.2.2.cell 4; have q5 := (HCL.out w1 KK.out).2.2.2.cell 5; have q6 := (HCL.out w1 KK.out).2.2.2.cell 6; have q7 := (HCL.out w1 KK.out).2.2.2.cell 7; simp at k0 k1 k2 k3 l0 l1 l2 l3 l4 l5 l6 l7 p0 p1 p2 p3 p4 p5 p6 p7 q0 q1 q2 q3 q4 q5 q6 q7) | (go_at_call 25; refine (C2.out _ KK.out).mono ?_; rintro e w2 ⟨rfl, hk⟩; have KK := Lib.hid (KK.out.trans hk (fun _ f => f.elim)); clear hk C2 k0 k1 k2 k3 l0 l1 l2 l3 l4 l5 l6 l7 p0 p1 p2 p3 p4 p5 p6 p7 q0 q1 q2 q3 q4 q5 q6 q7; have k0 := (HCL.out w2 KK.out).1.cell 0; have k1 := (HCL.out w2 KK.out).1.cell 1; have k2 := (HCL.out w2 KK.out).1.cell 2; have k3 := (HCL.out w2 KK.out).1.cell 3; have l0 := (HCL.out w2 KK.out).2.1.cell 0; have l1 := (HCL.out w2 KK.out).2.1.cell 1; have l2 := (HCL.out w2 KK.out).2.1.cell 2; have l3 := (HCL.out w2 KK.out).2.1.cell 3; have l4 := (HCL.out w2 KK.out).2.1.cell 4; have l5 := (HCL.out w2 KK.out).2.1.cell 5; have l6 := (HCL.out w2 KK.out).2.1.cell 6; have l7 := (HCL.out w2 KK.out).2.1.cell 7; have p0 := (HCL.out w2 KK.out).2.2.1.cell 0; have p1 := (HCL.out w2 KK.out).2.2.1.cell 1; have p2 := (HCL.out w2 KK.out).2.2.1.cell 2; have p3 := (HCL.out w2 KK.out).2.2.1.cell 3; have p4 := (HCL.out w2 KK.out).2.2.1.cell 4; have p5 := (HCL.out w2 KK.out).2.2.1.cell 5; have p6 := (HCL.out w2 KK.out).2.2.1.cell 6; have p7 := (HCL.out w2 KK.out).2.2.1.cell 7; have q0 := (HCL.out w2 KK.out).2.2.2.cell 0; have q1 := (HCL.out w2 KK.out).2.2.2.cell 1; have q2 := (HCL.out w2 KK.out).2.2.2.cell 2; have q3 := (HCL.out w2 KK.out).2.2.2.cell 3; have q4 := (HCL.out w2 KK.out).2.2.2.cell 4; have q5 := (HCL.out w2 KK.out).2.2.2.cell 5; have q6 := (HCL.out w2 KK.out).2.2.2.cell 6; have q7 := (HCL.out w2 KK.out).2.2.2.cell 7; simp at k0 k1 k2 k3 l0 l1 l2 l3 l4 l5 l6 l7 p0 p1 p2 p3 p4 p5 p6 p7 q0 q1 q2 q3 q4 q5 q6 q7) | (go_at_call 25; refine (C3.out _ KK.out).mono ?_; rintro e w3 ⟨rfl, hk⟩; have KK := Lib.hid (KK.out.trans hk (fun _ f => f.elim)); clear hk C3 k0 k1 k2 k3 l0 l1 l2 l3 l4 l5 l6 l7 p0 p1 p2 p3 p4 p5 p6 p7 q0 q1 q2 q3 q4 q5 q6 q7; have k0 := (HCL.out w3 KK.out).1.cell 0; have k1 := (HCL.out w3 KK.out).1.cell 1; have k2 := (HCL.out w3 KK.out).1.cell 2; have k3 := (HCL.out w3 KK.out).1.cell 3; have l0 := (HCL.out w3 KK.out).2.1.cell 0; have l1 := (HCL.out w3 KK.out).2.1.cell 1; have l2 := (HCL.out w3 KK.out).2.1.cell 2; have l3 := (HCL.out w3 KK.out).2.1.cell 3; have l4 := (HCL.out w3 KK.out).2.1.cell 4; have l5 := (HCL.out w3 KK.out).2.1.cell 5; have l6 := (HCL.out w3 KK.out).2.1.cell 6; have l7 := (HCL.out w3 KK.out).2.1.cell 7; have p0 := (HCL.out w3 KK.out).2.2.1.cell 0; have p1 := (HCL.out w3 KK.out).2.2.1.cell 1; have p2 := (HCL.out w3 KK.out).2.2.1.cell 2; have p3 := (HCL.out w3 KK.out).2.2.1.cell 3; have p4 := (HCL.out w3 KK.out).2.2.1.cell 4; have p5 := (HCL.out w3 KK.out).2.2.1.cell 5; have p6 := (HCL.out w3 KK.out).2.2.1.cell 6; have p7 := (HCL.out w3 KK.out).2.2.1.cell 7; have q0 := (HCL.out w3 KK.out).2.2.2.cell 0; have q1 := (HCL.out w3 KK.out).2.2.2.cell 1; have q2 := (HCL.out w3 KK.out).2.2.2.cell 2; have q3 := (HCL.out w3 KK.out).2.2.2.cell 3; have q4 := (HCL.out w3 KK.out).2.2.2.cell 4; have q5 := (HCL.out w3 KK.out).2.2.2.cell 5; have q6 := (HCL.out w3 KK.out).2.2.2.cell 6; have q7 := (HCL.out w3 KK.out).2.2.2.cell 7; simp at k0 k1 k2 k3 l0 l1 l2 l3 l4 l5 l6 l7 p0 p1 p2 p3 p4 p5 p6 p7 q0 q1 q2 q3 q4 q5 q6 q7) | (go_at_call 25; refine (C4.out _ KK.out).mono ?_; rintro e w4 ⟨rfl, hk⟩; have KK := Lib.hid (KK.out.trans hk (fun _ f => f.elim)); clear hk C4 k0 k1 k2 k3 l0 l1 l2 l3 l4 l5 l6 l7 p0 p1 p2 p3 p4 p5 p6 p7 q0 q1 q2 q3 q4 q5 q6 q7; have k0 := (HCL.out w4 KK.out).1.cell 0; have k1 := (HCL.out w4 KK.out).1.cell 1; have k2 := (HCL.out w4 KK.out).1.cell 2; have k3 := (HCL.out w4 KK.out).1.cell 3; have l0 := (HCL.out w4 KK.out).2.1.cell 0; have l1 := (HCL.out w4 KK.out).2.1.cell 1; have l2 := (HCL.out w4 KK.out).2.1.cell 2; have l3 := (HCL.out w4 KK.out).2.1.cell 3; have l4 := (HCL.out w4 KK.out).2.1.cell 4; have l5 := (HCL.out w4 KK.out).2.1.cell 5; have l6 := (HCL.out w4 KK.out).2.1.cell 6; have l7 := (HCL.out w4 KK.out).2.1.cell 7; have p0 := (HCL.out w4 KK.out).2.2.1.cell 0; have p1 := (HCL.out w4 KK.out).2.2.1.cell 1; have p2 := (HCL.out w4 KK.out).2.2.1.cell 2; have p3 := (HCL.out w4 KK.out).2.2.1.cell 3; have p4 := (HCL.out w4 KK.out).2.2.1.cell 4; have p5 := (HCL.out w4 KK.out).2.2.1.cell 5; have p6 := (HCL.out w4 KK.out).2.2.1.cell 6; have p7 := (HCL.out w4 KK.out).2.2.1.cell 7; have q0 := (HCL.out w4 KK.out).2.2.2.cell 0; have q1 := (HCL.out w4 KK.out).2.2.2.cell 1; have q2 := (HCL.out w4 KK.out).2.2.2.cell 2; have q3 := (HCL.out w4 KK.out).2.2.2.cell 3; have q4 := (HCL.out w4 KK.out).2.2.2.cell 4; have q5 := (HCL.out w4 KK.out).2.2.2.cell 5; have q6 := (HCL.out w4 KK.out).2.2.2.cell 6; have q7 := (HCL.out w4 KK.out).2.2.2.cell 7; simp at k0 k1 k2 k3 l0 l1 l2 l3 l4 l5 l6 l7 p0 p1 p2 p3 p4 p5 p6 p7 q0 q1 q2 q3 q4 q5 q6 q7) | (go_at_call 24; refine (awake21 _).mono ?_; rintro e w9 ⟨rfl, hk⟩; have KK := Lib.hid (KK.out.trans hk (fun _ f => f.elim)); clear hk))
              go_ret
              exact ⟨rfl, HK9.out.trans KK.out (fun _ f => f.elim)⟩
end Go.Proofs.Ytbigknmeooaidaa
