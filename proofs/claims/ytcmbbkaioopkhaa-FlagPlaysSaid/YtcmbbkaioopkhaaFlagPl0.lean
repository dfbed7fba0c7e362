/-
  FlagPlays, in pieces: what is kept, a call that notes events.
-/
import Derived.Test.YtcmbbkaioopkhaaFlagParts
import Derived.Test.YtcmbbkaioopkhaaPiece
namespace Go.Proofs.Ytcmbbkaioopkhaa
open Go Go.RowKit
set_option linter.unusedVariables false
set_option linter.unusedSimpArgs false

theorem and_modq (x : Int) (p : Nat) (m : Int) (hp : p ≤ 62) (hm : m = ((2 ^ p - 1 : Nat) : Int)) (n : Nat) (hn : 0 < n) : ∃ k : Nat, (bits .and .i64 x m).tmod (n : Int) = (k : Int) ∧ k < n := by
  rw [and_mask x p m hp hm]
  have hpos : 0 < (2 : Nat) ^ p := Nat.pow_pos (by decide)
  have h0 := Int.emod_nonneg x (show ((2 ^ p : Nat) : Int) ≠ 0 by omega)
  have h1 : (x % ((2 ^ p : Nat) : Int)).tmod (n : Int) = (x % ((2 ^ p : Nat) : Int)) % (n : Int) := Int.tmod_eq_emod_of_nonneg h0
  rw [h1]
  have h2 := Int.emod_nonneg (x % ((2 ^ p : Nat) : Int)) (show (n : Int) ≠ 0 by omega)
  have h3 := Int.emod_lt_of_pos (x % ((2 ^ p : Nat) : Int)) (show (0 : Int) < n by omega)
  exact ⟨((x % ((2 ^ p : Nat) : Int)) % (n : Int)).toNat, by omega, by omega⟩

/-- A call of the script: its events lie where v says. -/
structure FOp where
  kind : Int
  r : Int
  v : Value
  evs : List EvV
def FOp.cells (x : FOp) : List Value := [.int .i64 x.kind, .int .i64 x.r, x.v]

def NewOk (n : Int) (p : Option Addr) (er : Int) : Prop := (1 ≤ n ∧ n ≤ 1000 ∧ (∃ b, p = some ⟨b, 0, none⟩) ∧ er = 0) ∨ ((n < 1 ∨ 1000 < n) ∧ p = none ∧ er = 1)
theorem flag_new_any (n : Int) (w : World) : Calls Try.prog 15 #[.int .i64 n] w (fun e w' => ∃ p er, e = .returned (.tuple #[.pointer p, .int .i64 er]) ∧ NewOk n p er ∧ Below w.heap.size w w') := by
  by_cases h : 1 ≤ n ∧ n ≤ 1000
  · obtain ⟨k, rfl⟩ : ∃ k : Nat, n = k := ⟨n.toNat, by omega⟩
    refine (flag_new (St.start w) k (by omega) (by omega)).mono ?_
    rintro e w' ⟨b, rfl, hst⟩
    exact ⟨_, _, rfl, .inl ⟨h.1, h.2, ⟨b, rfl⟩, rfl⟩, hst.bel⟩
  · refine (flag_new_bad n (by omega) w).mono ?_
    rintro e w' ⟨rfl, rfl⟩
    exact ⟨_, _, rfl, .inr ⟨by omega, rfl, rfl⟩, Below.refl _ _⟩

theorem rflag_box {w0 w : World} {L : List Asr} (H : St w0 w L) (B : Nat) : St w0 (w.alloc (.cells #[.int .i64 B, .slice none 0 0, .slice none 0 0] 47)) (L ++ [rflagA w.heap.size ⟨B, [], []⟩]) := by
  refine H.add (w' := w.alloc _) ((Keep.refl w Nope).alloc _) ?_
  refine ⟨((none, 0), (none, 0)), ?_⟩
  refine ⟨fun j x => j = 0 ∧ x = w.heap.size, fun j A hj => ?_, fun j x hx => ?_, fun j k x hj hk => ?_⟩
  · rcases j with _ | _ | _ | j
    · cases hj
      exact ⟨Blk.new w _ _, rfl, rfl⟩
    · cases hj
      exact Own.nil _ _ _ _
    · cases hj
      exact Own.nil _ _ _ _
    · cases hj
  · obtain ⟨_, rfl⟩ := hx
    exact ⟨Nat.le_refl _, by simp⟩
  · omega

structure FInv (B i : Nat) (F : FlagV) : Prop where
  bound : F.bound = B
  all : F.all.length ≤ 40 * i
  len : F.pos.length ≤ i
  pos : ∀ p, p ∈ F.pos → p ≤ F.all.length
theorem FInv.note {B i : Nat} {F : FlagV} (h : FInv B i F) (l : List EvV) (hl : l.length ≤ 40) : FInv B (i + 1) ⟨F.bound, F.all ++ l, F.pos⟩ :=
  ⟨h.bound, by have := h.all; simp; omega, by have := h.len; simp; omega, fun p hp => by have := h.pos p hp; simp; omega⟩
theorem FInv.same {B i : Nat} {F : FlagV} (h : FInv B i F) : FInv B (i + 1) F := ⟨h.bound, by have := h.all; omega, by have := h.len; omega, h.pos⟩
theorem FInv.reader {B i : Nat} {F : FlagV} (h : FInv B i F) : FInv B (i + 1) ⟨F.bound, F.all, F.pos ++ [F.all.length]⟩ :=
  ⟨h.bound, by have := h.all; simp; omega, by have := h.len; simp; omega, fun p hp => by
    rcases List.mem_append.1 hp with hp | hp
    · exact h.pos p hp
    · simp at hp; simp [hp]⟩
theorem FInv.seen {B i : Nat} {F : FlagV} (h : FInv B i F) (k : Nat) : FInv B (i + 1) (F.seen k) :=
  ⟨h.bound, by have := h.all; simp [FlagV.seen]; omega, by have := h.len; simp [FlagV.seen]; omega, fun p hp => by
    rcases List.mem_or_eq_of_mem_set hp with hp | hp
    · exact h.pos p hp
    · simp [FlagV.seen, hp]⟩
def LoopFPl (w : World) (bf bw B N : Nat) (g : Nat) (v9 : Value) (wr : World) : Prop :=
  ∃ (i : Nat) (F : FlagV), g + i = N ∧ i ≤ 60 ∧ v9 = .int .i64 i ∧ FInv B i F ∧ St w wr [flagA bf F, rflagA bw F]
def LoopGd (w5 : World) (l : List EvV) (g : Nat) (v11 v12 : Value) (wr : World) : Prop :=
  ∃ k : Nat, g + k = l.length ∧ v12 = .int .i64 k ∧ v11 = .bool (!(l.take k).any badEv) ∧ Keep w5 wr Nope

noncomputable def fpBlk2 : Code := (Try.f6.body.bind (findBlock 2)).getD .skip
/-- What stands behind a call of the script. -/
def FpRel (w : World) (bf bw B i : Nat) (w' : World) : Prop := ∃ F', FInv B (i + 1) F' ∧ St w w' [flagA bf F', rflagA bw F']

set_option maxRecDepth 1000000 in
set_option maxHeartbeats 4000000 in
theorem fp_note {u0 u1 u2 u3 u4 u6 u7 u9 u11 u12 u13 u14 u15 u16 u17 u18 u19 u20 u21 u22 u23 u24 u25 u26 u27 u28 u29 u30 u31 u32 u33 u34 u35 u36 u37 u38 u39 u40 u41 u42 u43 u44 u45 u46 u47 u48 u49 u50 u51 u52 u53 u54 u55 u56 u57 u58 u59 u60 u61 u62 u63 u64 u65 u66 u67 u68 u69 u70 u71 u72 u73 u74 u75 u76 u77 u78 u79 u80 u81 u82 u83 u84 u85 u86 u87 u88 u89 u90 u91 u92 u93 u95 u96 u97 u98 u99 u100 u101 u102 u103 u104 u105 u106 u107 u108 u109 u110 u111 u112 u113 u114 u115 u116 u117 u118 u119 u120 u121 u122 u123 u124 u125 u126 u127 u128 u129 u130 u131 u132 u133 u134 u135 u136 u137 u138 u139 u140 u141 u142 u143 u144 u145 u146 u147 u148 u149 u150 u151 u152 u153 u154 u155 u156 u157 u158 u159 u160 u161 u162 u163 u164 u165 u166 u167 u168 u169 u170 u171 u172 u173 u174 u175 u176 u177 u178 u179 u180 u181 u182 u183 u184 u185 u186 u187 u188 u189 u190 u191 u192 u193 u194 u195 u196 u197 u198 u199 u200 u201 u202 u203 u204 u205 u206 u207 u208 u209 u210 u211 u212 u213 u214 u215 u216 u217 u218 u219 u220 u221 u222 u223 u224 u225 u226 u227 u228 u229 u230 u231 u232 u233 u234 u235 u236 u237 u238 u239 u240 u241 u242 u243 u244 u245 : Value} {bf bw bo : Nat} {w w5 : World} {S : Nat → Prop} {r : Int} {ax : Option Addr} {cx B i : Nat} {evs : List EvV} {F : FlagV} (Q0 : Exit → Act → World → Prop) (HRX : Hid (Rd S w (.slice ax evs.length cx) evs.length (flatEv evs))) (HSB : Hid (∀ i, S i → i < w.heap.size)) (HINV : Hid (FInv B i F))
    (H5 : Hid (St w w5 [flagA bf F, rflagA bw F, blkA bo #[.int .i64 0, .int .i64 r, .slice ax evs.length cx] 49])) (hB1 : 1 ≤ B) (hB2 : B ≤ 20) (hi60 : i < 60)
    (HN : Hid (∀ (x4 x11 x12 x13 x14 x15 x16 x17 x18 x19 x20 x21 x22 x23 x24 x25 x26 x27 x95 x96 x97 x98 x99 x100 x101 x102 x103 x104 x105 x106 x107 x108 x109 x110 x111 x112 x113 x114 x115 x116 x117 x118 x119 x120 x121 x122 x123 x124 x125 x126 x127 x128 x129 x130 x131 x132 x133 x134 x135 x136 x137 x138 x139 x140 x141 x142 x143 x144 x145 x146 x147 x148 x149 x150 x151 x152 x153 x154 x155 x156 x157 x158 x159 x160 x161 x162 x163 x164 x165 x166 x167 x168 x169 x170 x171 x172 x173 x174 x175 x176 x177 x178 x179 x180 x181 x182 x183 x184 x185 x186 x187 x188 x189 x190 x191 x192 x193 x194 x195 x196 x197 x198 x199 x200 x201 x202 x203 x204 x205 x206 x207 x208 x209 x210 x211 x212 x213 x214 x215 x216 x217 x218 x219 x220 x221 x222 x223 x224 x225 x226 x227 x228 x229 x230 x231 x232 x233 x234 x235 x236 x237 : Value) (w' : World), FpRel w bf bw B i w' → Q0 .normal ⟨#[u0, u1, u2, u3, x4, .pointer (some ⟨bf, 0, none⟩), u6, u7, .pointer (some ⟨bw, 0, none⟩), u9, .pointer (some ⟨bo, 0, none⟩), x11, x12, x13, x14, x15, x16, x17, x18, x19, x20, x21, x22, x23, x24, x25, x26, x27, u28, u29, u30, u31, u32, u33, u34, u35, u36, u37, u38, u39, u40, u41, u42, u43, u44, u45, u46, u47, u48, u49, u50, u51, u52, u53, u54, u55, u56, u57, u58, u59, u60, u61, u62, u63, u64, u65, u66, u67, u68, u69, u70, u71, u72, u73, u74, u75, u76, u77, u78, u79, u80, u81, u82, u83, u84, u85, u86, u87, u88, u89, u90, u91, u92, u93, .int .i64 0, x95, x96, x97, x98, x99, x100, x101, x102, x103, x104, x105, x106, x107, x108, x109, x110, x111, x112, x113, x114, x115, x116, x117, x118, x119, x120, x121, x122, x123, x124, x125, x126, x127, x128, x129, x130, x131, x132, x133, x134, x135, x136, x137, x138, x139, x140, x141, x142, x143, x144, x145, x146, x147, x148, x149, x150, x151, x152, x153, x154, x155, x156, x157, x158, x159, x160, x161, x162, x163, x164, x165, x166, x167, x168, x169, x170, x171, x172, x173, x174, x175, x176, x177, x178, x179, x180, x181, x182, x183, x184, x185, x186, x187, x188, x189, x190, x191, x192, x193, x194, x195, x196, x197, x198, x199, x200, x201, x202, x203, x204, x205, x206, x207, x208, x209, x210, x211, x212, x213, x214, x215, x216, x217, x218, x219, x220, x221, x222, x223, x224, x225, x226, x227, x228, x229, x230, x231, x232, x233, x234, x235, x236, x237, u238, u239, u240, u241, u242, u243, u244, u245], []⟩ w')) (HPan : Hid (∀ c a w, Q0 (.panic c) a w → False)) (HR : Hid (∀ (x11 x12 x13 x14 x15 x16 x17 x18 x19 x20 x21 x22 x23 x24 x25 x26 x27 x95 x96 x97 x98 x99 x100 x101 x102 x103 x104 x105 x106 x107 x108 x109 x110 x111 x112 x113 x114 x115 x116 x117 x118 x119 x120 x121 x122 x123 x124 x125 x126 x127 x128 x129 x130 x131 x132 x133 x134 x135 x136 x137 x138 x139 x140 x141 x142 x143 x144 x145 x146 x147 x148 x149 x150 x151 x152 x153 x154 x155 x156 x157 x158 x159 x160 x161 x162 x163 x164 x165 x166 x167 x168 x169 x170 x171 x172 x173 x174 x175 x176 x177 x178 x179 x180 x181 x182 x183 x184 x185 x186 x187 x188 x189 x190 x191 x192 x193 x194 x195 x196 x197 x198 x199 x200 x201 x202 x203 x204 x205 x206 x207 x208 x209 x210 x211 x212 x213 x214 x215 x216 x217 x218 x219 x220 x221 x222 x223 x224 x225 x226 x227 x228 x229 x230 x231 x232 x233 x234 x235 x236 x237 : Value) (w' : World), Below w.heap.size w w' → Q0 .ret ⟨#[u0, u1, u2, u3, .bool true, .pointer (some ⟨bf, 0, none⟩), u6, u7, .pointer (some ⟨bw, 0, none⟩), u9, .pointer (some ⟨bo, 0, none⟩), x11, x12, x13, x14, x15, x16, x17, x18, x19, x20, x21, x22, x23, x24, x25, x26, x27, u28, u29, u30, u31, u32, u33, u34, u35, u36, u37, u38, u39, u40, u41, u42, u43, u44, u45, u46, u47, u48, u49, u50, u51, u52, u53, u54, u55, u56, u57, u58, u59, u60, u61, u62, u63, u64, u65, u66, u67, u68, u69, u70, u71, u72, u73, u74, u75, u76, u77, u78, u79, u80, u81, u82, u83, u84, u85, u86, u87, u88, u89, u90, u91, u92, u93, .int .i64 0, x95, x96, x97, x98, x99, x100, x101, x102, x103, x104, x105, x106, x107, x108, x109, x110, x111, x112, x113, x114, x115, x116, x117, x118, x119, x120, x121, x122, x123, x124, x125, x126, x127, x128, x129, x130, x131, x132, x133, x134, x135, x136, x137, x138, x139, x140, x141, x142, x143, x144, x145, x146, x147, x148, x149, x150, x151, x152, x153, x154, x155, x156, x157, x158, x159, x160, x161, x162, x163, x164, x165, x166, x167, x168, x169, x170, x171, x172, x173, x174, x175, x176, x177, x178, x179, x180, x181, x182, x183, x184, x185, x186, x187, x188, x189, x190, x191, x192, x193, x194, x195, x196, x197, x198, x199, x200, x201, x202, x203, x204, x205, x206, x207, x208, x209, x210, x211, x212, x213, x214, x215, x216, x217, x218, x219, x220, x221, x222, x223, x224, x225, x226, x227, x228, x229, x230, x231, x232, x233, x234, x235, x236, x237, u238, u239, u240, u241, u242, u243, u244, u245], []⟩ w')) :
    Code.wp Try.prog fpBlk2 Q0 ⟨#[u0, u1, u2, u3, u4, .pointer (some ⟨bf, 0, none⟩), u6, u7, .pointer (some ⟨bw, 0, none⟩), u9, .pointer (some ⟨bo, 0, none⟩), u11, u12, u13, u14, u15, u16, u17, u18, u19, u20, u21, u22, u23, u24, u25, u26, u27, u28, u29, u30, u31, u32, u33, u34, u35, u36, u37, u38, u39, u40, u41, u42, u43, u44, u45, u46, u47, u48, u49, u50, u51, u52, u53, u54, u55, u56, u57, u58, u59, u60, u61, u62, u63, u64, u65, u66, u67, u68, u69, u70, u71, u72, u73, u74, u75, u76, u77, u78, u79, u80, u81, u82, u83, u84, u85, u86, u87, u88, u89, u90, u91, u92, u93, .int .i64 0, u95, u96, u97, u98, u99, u100, u101, u102, u103, u104, u105, u106, u107, u108, u109, u110, u111, u112, u113, u114, u115, u116, u117, u118, u119, u120, u121, u122, u123, u124, u125, u126, u127, u128, u129, u130, u131, u132, u133, u134, u135, u136, u137, u138, u139, u140, u141, u142, u143, u144, u145, u146, u147, u148, u149, u150, u151, u152, u153, u154, u155, u156, u157, u158, u159, u160, u161, u162, u163, u164, u165, u166, u167, u168, u169, u170, u171, u172, u173, u174, u175, u176, u177, u178, u179, u180, u181, u182, u183, u184, u185, u186, u187, u188, u189, u190, u191, u192, u193, u194, u195, u196, u197, u198, u199, u200, u201, u202, u203, u204, u205, u206, u207, u208, u209, u210, u211, u212, u213, u214, u215, u216, u217, u218, u219, u220, u221, u222, u223, u224, u225, u226, u227, u228, u229, u230, u231, u232, u233, u234, u235, u236, u237, u238, u239, u240, u241, u242, u243, u244, u245], []⟩ w5 := by
  have hall : F.all.length ≤ 2400 := by have := HINV.out.all; omega
  have hposl : F.pos.length ≤ 60 := by have := HINV.out.len; omega
  have c0 := (H5.out.blk 2 rfl).cell 0
  have c1 := (H5.out.blk 2 rfl).cell 1
  have c2 := (H5.out.blk 2 rfl).cell 2
  simp at c0 c1 c2
  conv => arg 2; whnf
  by_cases hbig : 40 < evs.length
  · have hbig' : (40 : Int) < evs.length := by omega
    go_wp2_with fail
    exact HR.out _ _ _ _ _ _ _ _ _ _ _ _ _ _ _ _ _ _ _ _ _ _ _ _ _ _ _ _ _ _ _ _ _ _ _ _ _ _ _ _ _ _ _ _ _ _ _ _ _ _ _ _ _ _ _ _ _ _ _ _ _ _ _ _ _ _ _ _ _ _ _ _ _ _ _ _ _ _ _ _ _ _ _ _ _ _ _ _ _ _ _ _ _ _ _ _ _ _ _ _ _ _ _ _ _ _ _ _ _ _ _ _ _ _ _ _ _ _ _ _ _ _ _ _ _ _ _ _ _ _ _ _ _ _ _ _ _ _ _ _ _ _ _ _ _ _ _ _ _ _ _ _ _ _ _ _ _ _ _ _ _ (H5.out.bel)
  · have hbig' : ¬ (40 : Int) < evs.length := by omega
    have hel : evs.length ≤ 40 := by omega
    clear hbig
    go_wp2_with fail
    go_loopg [11, 12] evs.length (fun g v11 v12 wr => LoopGd w5 evs g v11 v12 wr)
    case atStart => exact ⟨0, rfl, rfl, by simp, Keep.refl _ _⟩
    case round =>
      obtain ⟨k, hk, rfl, rfl, hkp⟩ := hrel
      have hkl : k ≤ evs.length := by omega
      have HK := Lib.hid hk; clear hk
      have H6 := Lib.hid (H5.out.keep hkp)
      have HKP := Lib.hid hkp; clear hkp c0 c1 c2
      have c2 := (H6.out.blk 2 rfl).cell 2
      simp at c2
      by_cases hklt : k < evs.length
      · obtain ⟨o, ho⟩ : ∃ o, evs[k]? = some o := ⟨_, List.getElem?_eq_getElem hklt⟩
        obtain ⟨ob, oo, rfl, _, hco⟩ := (HRX.out.below H6.out.bel HSB.out).elem (cells := EvV.cells) (size := 2) (fun _ => rfl) (by decide) ho
        have HC := Lib.hid (event_ok o)
        have HTK := Lib.hid (show (evs.take (k + 1)).any badEv = ((evs.take k).any badEv || badEv o) by rw [List.take_add_one, ho]; simp)
        obtain ⟨gd, hgd⟩ : ∃ gd, (evs.take k).any badEv = gd := ⟨_, rfl⟩
        rw [hgd] at HTK ⊢
        obtain ⟨bd, hbd⟩ : ∃ bd, badEv o = bd := ⟨_, rfl⟩
        rw [hbd] at HC HTK
        clear ho hgd hbd
        obtain ⟨kind, idx⟩ := o
        have d0 := hco 0 (by decide)
        have d1 := hco 1 (by decide)
        simp [EvV.cells] at d0 d1
        simp only [EvV.val] at HC
        clear hco
        cases gd
        · simp only [Bool.not_false]
          go_wp2_with fail
          refine (HC.out _).mono ?_
          rintro e w7 ⟨rfl, hk7⟩
          have HK7 := Lib.hid hk7; clear hk7
          go_wp2_with fail
          go_roundg (evs.length - (k + 1))
          case measure => have := HK.out; omega
          case rel => exact ⟨k + 1, by omega, by go_num, by rw [HTK.out]; simp, HKP.out.trans HK7.out (fun _ f => f.elim)⟩
        · simp only [Bool.not_true]
          go_wp2_with fail
          go_roundg (evs.length - (k + 1))
          case measure => have := HK.out; omega
          case rel => exact ⟨k + 1, by omega, by go_num, by rw [HTK.out]; simp, HKP.out⟩
      · obtain rfl : k = evs.length := by omega
        rw [List.take_length]
        clear HK hkl hklt H5 HKP
        obtain ⟨gd, hgd⟩ : ∃ gd, evs.any badEv = gd := ⟨_, rfl⟩
        rw [hgd]
        have HGD := Lib.hid hgd; clear hgd
        cases gd
        · simp only [Bool.not_false]
          go_wp2_with fail
          refine (flag_note H6.out 0 rfl _ evs (ReadIn.old HRX.out HSB.out) HGD.out (by omega) (by omega) (by rw [HINV.out.bound]; exact hB1) (by rw [HINV.out.bound]; omega)).mono ?_
          rintro e w7 ⟨rfl, hst⟩
          have H7 := Lib.hid (show St w w7 [flagA bf ⟨F.bound, F.all ++ evs, F.pos⟩, rflagA bw F, blkA bo #[.int .i64 0, .int .i64 r, .slice ax evs.length cx] 49] from hst); clear hst H6
          go_wp2_with fail
          obtain ⟨⟨⟨ea, ec⟩, ⟨ra, rc⟩⟩, hx⟩ := H7.out.exSplit 1 rfl
          have e1 : (rflagPs bw F ((ea, ec), (ra, rc))) = [blkA bw #[.int .i64 F.bound, .slice ea F.all.length ec, .slice ra F.pos.length rc] 47, slA 34 2 (.slice ea F.all.length ec) F.all.length (flatEv F.all), slA 3 1 (.slice ra F.pos.length rc) F.pos.length (i64s F.pos)] := rfl
          rw [e1] at hx
          clear e1
          obtain ⟨m, hm⟩ : ∃ m, F.all.length = m := ⟨_, rfl⟩
          rw [hm] at hx hall
          have HM := Lib.hid hm; clear hm
          have HX := Lib.hid (show St w w7 ([blkA bw #[.int .i64 F.bound, .slice ea m ec, .slice ra F.pos.length rc] 47, slA 34 2 (.slice ea m ec) m (flatEv F.all), slA 3 1 (.slice ra F.pos.length rc) F.pos.length (i64s F.pos)] ++ [flagA bf ⟨F.bound, F.all ++ evs, F.pos⟩, empA, blkA bo #[.int .i64 0, .int .i64 r, .slice ax evs.length cx] 49]) from hx)
          clear hx
          have c2' := (HX.out.blk 5 (b := bo) rfl).cell 2
          have cb1 := (HX.out.blk 0 (b := bw) rfl).cell 1
          simp at c2' cb1
          obtain ⟨G, hown, hG1, hup, _⟩ := HX.out.opens 1 rfl
          have HOwn := Lib.hid (show Own G w7 34 2 (.slice ea m ec) m (flatEv F.all) from hown)
          have HUP := Lib.hid hup
          have HRV := Lib.hid (HRX.out.below HX.out.bel HSB.out)
          clear hown hup hG1
          refine wp_region_M (r := 8) (S := fun w' => w'.cell? ⟨bw, 1, none⟩ = some (.slice ea m ec) ∧ w'.cell? ⟨bo, 2, none⟩ = some (.slice ax evs.length cx)) (by kernel_rfl) ?_ (fun hHeld => ?_)
          · (try dsimp only); go_keep
          (refine wpAnyM_takeP (i := 0) (oi := ?_) (v := ?_) ?_ ?_ ?_ ?_ ?_ ?_ ?_ ?_ ?_; rotate_left 2; (· simp only [List.getElem?_toArray, List.getElem?_cons_succ, List.getElem?_cons_zero]; exact rfl); (· kernel_rfl); (· kernel_rfl); (· kernel_rfl); (· kernel_rfl); (· first | exact fun _ _ _ h => h | exact fun _ _ _ h => (HPan.out _ _ _ h).elim); (· (refine Or.inl ⟨by rfl, ?_⟩; (intro w hSw; (try dsimp only at hSw); go_simp) <;> with_reducible rfl)); (· exact fun _ => hHeld); simp only [Act.put, List.setIfInBounds_toArray, List.set_cons_zero, List.set_cons_succ])
          (refine wpAnyM_takeP (i := 1) (oi := ?_) (v := ?_) ?_ ?_ ?_ ?_ ?_ ?_ ?_ ?_ ?_; rotate_left 2; (· simp only [List.getElem?_toArray, List.getElem?_cons_succ, List.getElem?_cons_zero]; exact rfl); (· kernel_rfl); (· kernel_rfl); (· kernel_rfl); (· kernel_rfl); (· first | exact fun _ _ _ h => h | exact fun _ _ _ h => (HPan.out _ _ _ h).elim); (· (refine Or.inl ⟨by rfl, ?_⟩; (intro w hSw; (try dsimp only at hSw); go_simp) <;> with_reducible rfl)); (· exact fun _ => hHeld); simp only [Act.put, List.setIfInBounds_toArray, List.set_cons_zero, List.set_cons_succ])
          (refine wpAnyM_takeP (i := 2) (oi := ?_) (v := ?_) ?_ ?_ ?_ ?_ ?_ ?_ ?_ ?_ ?_; rotate_left 2; (· simp only [List.getElem?_toArray, List.getElem?_cons_succ, List.getElem?_cons_zero]; exact rfl); (· kernel_rfl); (· kernel_rfl); (· kernel_rfl); (· kernel_rfl); (· first | exact fun _ _ _ h => h | exact fun _ _ _ h => (HPan.out _ _ _ h).elim); (· (refine Or.inl ⟨by rfl, ?_⟩; (intro w hSw; (try dsimp only at hSw); go_simp) <;> with_reducible rfl)); (· exact fun _ => hHeld); simp only [Act.put, List.setIfInBounds_toArray, List.set_cons_zero, List.set_cons_succ])
          (refine wpAnyM_takeP (i := 3) (oi := ?_) (v := ?_) ?_ ?_ ?_ ?_ ?_ ?_ ?_ ?_ ?_; rotate_left 2; (· simp only [List.getElem?_toArray, List.getElem?_cons_succ, List.getElem?_cons_zero]; exact rfl); (· kernel_rfl); (· kernel_rfl); (· kernel_rfl); (· kernel_rfl); (· first | exact fun _ _ _ h => h | exact fun _ _ _ h => (HPan.out _ _ _ h).elim); (· (refine Or.inl ⟨by rfl, ?_⟩; (intro w hSw; (try dsimp only at hSw); go_simp) <;> with_reducible rfl)); (· exact fun _ => hHeld); simp only [Act.put, List.setIfInBounds_toArray, List.set_cons_zero, List.set_cons_succ])
          (refine wpAnyM_take (i := 4) (oi := ?_) (v := ?_) ?_ ?_ ?_ ?_ ?_ ?_ ?_ ?_ ?_ ?_; rotate_left 2; (· simp only [List.getElem?_toArray, List.getElem?_cons_succ, List.getElem?_cons_zero]; exact rfl); (· kernel_rfl); (· kernel_rfl); (· kernel_rfl); (· kernel_rfl); (· kernel_rfl); (· first | exact fun _ _ _ h => h | exact fun _ _ _ h => (HPan.out _ _ _ h).elim); (· (refine Or.inl ⟨by rfl, ?_⟩; (intro w hSw; (try dsimp only at hSw); go_simp) <;> with_reducible rfl)); (· assumption); simp only [Act.put, List.setIfInBounds_toArray, List.set_cons_zero, List.set_cons_succ])
          (refine wpAnyM_takeP (i := 5) (oi := ?_) (v := ?_) ?_ ?_ ?_ ?_ ?_ ?_ ?_ ?_ ?_; rotate_left 2; (· simp only [List.getElem?_toArray, List.getElem?_cons_succ, List.getElem?_cons_zero]; exact rfl); (· kernel_rfl); (· kernel_rfl); (· kernel_rfl); (· kernel_rfl); (· first | exact fun _ _ _ h => h | exact fun _ _ _ h => (HPan.out _ _ _ h).elim); (· (refine Or.inl ⟨by rfl, ?_⟩; (intro w hSw; (try dsimp only at hSw); go_simp) <;> with_reducible rfl)); (· exact fun _ => hHeld); simp only [Act.put, List.setIfInBounds_toArray, List.set_cons_zero, List.set_cons_succ])
          (refine wpAnyM_take (i := 6) (oi := ?_) (v := ?_) ?_ ?_ ?_ ?_ ?_ ?_ ?_ ?_ ?_ ?_; rotate_left 2; (· simp only [List.getElem?_toArray, List.getElem?_cons_succ, List.getElem?_cons_zero]; exact rfl); (· kernel_rfl); (· kernel_rfl); (· kernel_rfl); (· kernel_rfl); (· kernel_rfl); (· first | exact fun _ _ _ h => h | exact fun _ _ _ h => (HPan.out _ _ _ h).elim); (· (refine Or.inl ⟨by rfl, ?_⟩; (intro w hSw; (try dsimp only at hSw); go_simp) <;> with_reducible rfl)); (· assumption); simp only [Act.put, List.setIfInBounds_toArray, List.set_cons_zero, List.set_cons_succ])
          refine wpAnyM_ready (rs := [7]) (by kernel_rfl) (by simp) ?_
          refine AllReadyM.cons (o := ?_) ?_ ?_ ?_
          rotate_left 1
          · simp only [List.getElem?_toArray, List.getElem?_cons_succ, List.getElem?_cons_zero]; exact rfl
          rotate_left 1
          · exact AllReadyM.nil
          intro K hK
          rw [if_pos (by rfl)]
          (refine step_app (P := Try.prog) slEv _ _ rfl (S := G) (S2 := S) (n := m) (xs := flatEv F.all) (m := evs.length) (news := flatEv evs) rfl rfl HOwn.out.drew HRV.out.drew (flatEv_len _) (flatEv_one _) (by omega) (by unfold maxLen; omega) ?_; rintro a' k' c' w8 happ; obtain ⟨q1, q2⟩ := app_up (wr := w7) ((Keep.refl w7 Nope).drew) happ; obtain rfl := happ.num; rw [← flatEv_app] at q2; have HS8 := Lib.hid (HUP.out w8 _ q1 q2); clear happ q1 q2; have hf81 := (HS8.out.blk 0 (b := bw) rfl).frozen 1; have hc81 := (HS8.out.blk 0 (b := bw) rfl).cell 1; have hc82 := (HS8.out.blk 5 (b := bo) rfl).cell 2; simp at hc81 hc82)
          refine hK.out _ _ ?_ (fun hHeld => ?_)
          · (try dsimp only); exact ⟨hc81, hc82⟩
          clear hK K
          (try simp only [List.getElem_toArray, List.getElem_cons_succ, List.getElem_cons_zero, Act.put, List.setIfInBounds_toArray, List.set_cons_zero, List.set_cons_succ])
          refine wpAnyM_ready (rs := [8]) (by kernel_rfl) (by simp) ?_
          refine AllReadyM.free (o := ?_) ?_ (by kernel_rfl) ?_ ?_
          rotate_left 1
          · simp only [List.getElem?_toArray, List.getElem?_cons_succ, List.getElem?_cons_zero]; exact rfl
          rotate_left 1
          · exact AllReadyM.nil
          intro K hK
          go_simp
          refine hK.out _ _ ?_
          clear hK K
          (refine wpAnyM_takeP (i := 9) (oi := ?_) (v := ?_) ?_ ?_ ?_ ?_ ?_ ?_ ?_ ?_ ?_; rotate_left 2; (· simp only [List.getElem?_toArray, List.getElem?_cons_succ, List.getElem?_cons_zero]; exact rfl); (· kernel_rfl); (· kernel_rfl); (· kernel_rfl); (· kernel_rfl); (· first | exact fun _ _ _ h => h | exact fun _ _ _ h => (HPan.out _ _ _ h).elim); (· (refine Or.inl ⟨by rfl, ?_⟩; (intro w hSw; (try dsimp only at hSw); go_simp) <;> with_reducible rfl)); (· exact fun h => Bool.noConfusion (show true = false from h)); simp only [Act.put, List.setIfInBounds_toArray, List.set_cons_zero, List.set_cons_succ])
          refine wpAnyM_ready (rs := [10]) (by kernel_rfl) (by simp) ?_
          refine AllReadyM.free (o := ?_) ?_ (by kernel_rfl) ?_ ?_
          rotate_left 1
          · simp only [List.getElem?_toArray, List.getElem?_cons_succ, List.getElem?_cons_zero]; exact rfl
          rotate_left 1
          · exact AllReadyM.nil
          intro K hK
          go_simp
          refine hK.out _ _ ?_
          clear hK K
          refine wpAnyM_done (by kernel_rfl) ?_ _
          go_wp2_with fail
          refine HN.out _ _ _ _ _ _ _ _ _ _ _ _ _ _ _ _ _ _ _ _ _ _ _ _ _ _ _ _ _ _ _ _ _ _ _ _ _ _ _ _ _ _ _ _ _ _ _ _ _ _ _ _ _ _ _ _ _ _ _ _ _ _ _ _ _ _ _ _ _ _ _ _ _ _ _ _ _ _ _ _ _ _ _ _ _ _ _ _ _ _ _ _ _ _ _ _ _ _ _ _ _ _ _ _ _ _ _ _ _ _ _ _ _ _ _ _ _ _ _ _ _ _ _ _ _ _ _ _ _ _ _ _ _ _ _ _ _ _ _ _ _ _ _ _ _ _ _ _ _ _ _ _ _ _ _ _ _ _ _ _ _ _ ⟨_, HINV.out.note evs hel, ?_⟩
          have h9 := HS8.out.write 0 (b := bw) rfl 1 (.slice a' (m + evs.length) c')
          have h10 := St.exJoin (rflagPs bw ⟨F.bound, F.all ++ evs, F.pos⟩) ((a', c'), (ra, rc)) (L := [flagA bf ⟨F.bound, F.all ++ evs, F.pos⟩, empA, blkA bo #[.int .i64 0, .int .i64 r, .slice ax evs.length cx] 49]) 1 (by simp) (by
            unfold rflagPs
            simp only [List.length_append, HM.out]
            exact h9)
          exact h10.take 2
        · simp only [Bool.not_true]
          go_wp2_with fail
          refine (flag_note_bad (b := bf) (F := F) H6.out _ evs (HRX.out.below H6.out.bel HSB.out) HGD.out).mono ?_
          rintro e w7 ⟨rfl, hk7⟩
          have H7 := Lib.hid (H6.out.keep hk7); clear hk7 H6
          go_wp2_with fail
          exact HN.out _ _ _ _ _ _ _ _ _ _ _ _ _ _ _ _ _ _ _ _ _ _ _ _ _ _ _ _ _ _ _ _ _ _ _ _ _ _ _ _ _ _ _ _ _ _ _ _ _ _ _ _ _ _ _ _ _ _ _ _ _ _ _ _ _ _ _ _ _ _ _ _ _ _ _ _ _ _ _ _ _ _ _ _ _ _ _ _ _ _ _ _ _ _ _ _ _ _ _ _ _ _ _ _ _ _ _ _ _ _ _ _ _ _ _ _ _ _ _ _ _ _ _ _ _ _ _ _ _ _ _ _ _ _ _ _ _ _ _ _ _ _ _ _ _ _ _ _ _ _ _ _ _ _ _ _ _ _ _ _ _ _ (⟨F, HINV.out.same, H7.out.take 2⟩)

end Go.Proofs.Ytcmbbkaioopkhaa
