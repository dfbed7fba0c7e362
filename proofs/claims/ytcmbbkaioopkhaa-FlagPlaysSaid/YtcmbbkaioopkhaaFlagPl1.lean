/-
  FlagPlays, in pieces: a reader joins, a reader reads.
-/
import Derived.Test.YtcmbbkaioopkhaaFlagPl0
namespace Go.Proofs.Ytcmbbkaioopkhaa
open Go Go.RowKit
set_option linter.unusedVariables false
set_option linter.unusedSimpArgs false


set_option maxRecDepth 1000000 in
set_option maxHeartbeats 4000000 in
theorem fp_reader {u0 u1 u2 u3 u4 u6 u7 u9 u11 u12 u13 u14 u15 u16 u17 u18 u19 u20 u21 u22 u23 u24 u25 u26 u27 u28 u29 u30 u31 u32 u33 u34 u35 u36 u37 u38 u39 u40 u41 u42 u43 u44 u45 u46 u47 u48 u49 u50 u51 u52 u53 u54 u55 u56 u57 u58 u59 u60 u61 u62 u63 u64 u65 u66 u67 u68 u69 u70 u71 u72 u73 u74 u75 u76 u77 u78 u79 u80 u81 u82 u83 u84 u85 u86 u87 u88 u89 u90 u91 u92 u93 u95 u96 u97 u98 u99 u100 u101 u102 u103 u104 u105 u106 u107 u108 u109 u110 u111 u112 u113 u114 u115 u116 u117 u118 u119 u120 u121 u122 u123 u124 u125 u126 u127 u128 u129 u130 u131 u132 u133 u134 u135 u136 u137 u138 u139 u140 u141 u142 u143 u144 u145 u146 u147 u148 u149 u150 u151 u152 u153 u154 u155 u156 u157 u158 u159 u160 u161 u162 u163 u164 u165 u166 u167 u168 u169 u170 u171 u172 u173 u174 u175 u176 u177 u178 u179 u180 u181 u182 u183 u184 u185 u186 u187 u188 u189 u190 u191 u192 u193 u194 u195 u196 u197 u198 u199 u200 u201 u202 u203 u204 u205 u206 u207 u208 u209 u210 u211 u212 u213 u214 u215 u216 u217 u218 u219 u220 u221 u222 u223 u224 u225 u226 u227 u228 u229 u230 u231 u232 u233 u234 u235 u236 u237 u238 u239 u240 u241 u242 u243 u244 u245 : Value} {bf bw bo : Nat} {w w5 : World} {S : Nat → Prop} {r : Int} {ax : Option Addr} {cx B i : Nat} {evs : List EvV} {F : FlagV} (Q0 : Exit → Act → World → Prop) (HRX : Hid (Rd S w (.slice ax evs.length cx) evs.length (flatEv evs))) (HSB : Hid (∀ i, S i → i < w.heap.size)) (HINV : Hid (FInv B i F))
    (H5 : Hid (St w w5 [flagA bf F, rflagA bw F, blkA bo #[.int .i64 1, .int .i64 r, .slice ax evs.length cx] 49])) (hB1 : 1 ≤ B) (hB2 : B ≤ 20) (hi60 : i < 60)
    (HN : Hid (∀ (x4 x11 x12 x13 x14 x15 x16 x17 x18 x19 x20 x21 x22 x23 x24 x25 x26 x27 x95 x96 x97 x98 x99 x100 x101 x102 x103 x104 x105 x106 x107 x108 x109 x110 x111 x112 x113 x114 x115 x116 x117 x118 x119 x120 x121 x122 x123 x124 x125 x126 x127 x128 x129 x130 x131 x132 x133 x134 x135 x136 x137 x138 x139 x140 x141 x142 x143 x144 x145 x146 x147 x148 x149 x150 x151 x152 x153 x154 x155 x156 x157 x158 x159 x160 x161 x162 x163 x164 x165 x166 x167 x168 x169 x170 x171 x172 x173 x174 x175 x176 x177 x178 x179 x180 x181 x182 x183 x184 x185 x186 x187 x188 x189 x190 x191 x192 x193 x194 x195 x196 x197 x198 x199 x200 x201 x202 x203 x204 x205 x206 x207 x208 x209 x210 x211 x212 x213 x214 x215 x216 x217 x218 x219 x220 x221 x222 x223 x224 x225 x226 x227 x228 x229 x230 x231 x232 x233 x234 x235 x236 x237 : Value) (w' : World), FpRel w bf bw B i w' → Q0 .normal ⟨#[u0, u1, u2, u3, x4, .pointer (some ⟨bf, 0, none⟩), u6, u7, .pointer (some ⟨bw, 0, none⟩), u9, .pointer (some ⟨bo, 0, none⟩), x11, x12, x13, x14, x15, x16, x17, x18, x19, x20, x21, x22, x23, x24, x25, x26, x27, u28, u29, u30, u31, u32, u33, u34, u35, u36, u37, u38, u39, u40, u41, u42, u43, u44, u45, u46, u47, u48, u49, u50, u51, u52, u53, u54, u55, u56, u57, u58, u59, u60, u61, u62, u63, u64, u65, u66, u67, u68, u69, u70, u71, u72, u73, u74, u75, u76, u77, u78, u79, u80, u81, u82, u83, u84, u85, u86, u87, u88, u89, u90, u91, u92, u93, .int .i64 1, x95, x96, x97, x98, x99, x100, x101, x102, x103, x104, x105, x106, x107, x108, x109, x110, x111, x112, x113, x114, x115, x116, x117, x118, x119, x120, x121, x122, x123, x124, x125, x126, x127, x128, x129, x130, x131, x132, x133, x134, x135, x136, x137, x138, x139, x140, x141, x142, x143, x144, x145, x146, x147, x148, x149, x150, x151, x152, x153, x154, x155, x156, x157, x158, x159, x160, x161, x162, x163, x164, x165, x166, x167, x168, x169, x170, x171, x172, x173, x174, x175, x176, x177, x178, x179, x180, x181, x182, x183, x184, x185, x186, x187, x188, x189, x190, x191, x192, x193, x194, x195, x196, x197, x198, x199, x200, x201, x202, x203, x204, x205, x206, x207, x208, x209, x210, x211, x212, x213, x214, x215, x216, x217, x218, x219, x220, x221, x222, x223, x224, x225, x226, x227, x228, x229, x230, x231, x232, x233, x234, x235, x236, x237, u238, u239, u240, u241, u242, u243, u244, u245], []⟩ w')) (HPan : Hid (∀ c a w, Q0 (.panic c) a w → False)) (HR : Hid (∀ (x11 x12 x13 x14 x15 x16 x17 x18 x19 x20 x21 x22 x23 x24 x25 x26 x27 x95 x96 x97 x98 x99 x100 x101 x102 x103 x104 x105 x106 x107 x108 x109 x110 x111 x112 x113 x114 x115 x116 x117 x118 x119 x120 x121 x122 x123 x124 x125 x126 x127 x128 x129 x130 x131 x132 x133 x134 x135 x136 x137 x138 x139 x140 x141 x142 x143 x144 x145 x146 x147 x148 x149 x150 x151 x152 x153 x154 x155 x156 x157 x158 x159 x160 x161 x162 x163 x164 x165 x166 x167 x168 x169 x170 x171 x172 x173 x174 x175 x176 x177 x178 x179 x180 x181 x182 x183 x184 x185 x186 x187 x188 x189 x190 x191 x192 x193 x194 x195 x196 x197 x198 x199 x200 x201 x202 x203 x204 x205 x206 x207 x208 x209 x210 x211 x212 x213 x214 x215 x216 x217 x218 x219 x220 x221 x222 x223 x224 x225 x226 x227 x228 x229 x230 x231 x232 x233 x234 x235 x236 x237 : Value) (w' : World), Below w.heap.size w w' → Q0 .ret ⟨#[u0, u1, u2, u3, .bool true, .pointer (some ⟨bf, 0, none⟩), u6, u7, .pointer (some ⟨bw, 0, none⟩), u9, .pointer (some ⟨bo, 0, none⟩), x11, x12, x13, x14, x15, x16, x17, x18, x19, x20, x21, x22, x23, x24, x25, x26, x27, u28, u29, u30, u31, u32, u33, u34, u35, u36, u37, u38, u39, u40, u41, u42, u43, u44, u45, u46, u47, u48, u49, u50, u51, u52, u53, u54, u55, u56, u57, u58, u59, u60, u61, u62, u63, u64, u65, u66, u67, u68, u69, u70, u71, u72, u73, u74, u75, u76, u77, u78, u79, u80, u81, u82, u83, u84, u85, u86, u87, u88, u89, u90, u91, u92, u93, .int .i64 1, x95, x96, x97, x98, x99, x100, x101, x102, x103, x104, x105, x106, x107, x108, x109, x110, x111, x112, x113, x114, x115, x116, x117, x118, x119, x120, x121, x122, x123, x124, x125, x126, x127, x128, x129, x130, x131, x132, x133, x134, x135, x136, x137, x138, x139, x140, x141, x142, x143, x144, x145, x146, x147, x148, x149, x150, x151, x152, x153, x154, x155, x156, x157, x158, x159, x160, x161, x162, x163, x164, x165, x166, x167, x168, x169, x170, x171, x172, x173, x174, x175, x176, x177, x178, x179, x180, x181, x182, x183, x184, x185, x186, x187, x188, x189, x190, x191, x192, x193, x194, x195, x196, x197, x198, x199, x200, x201, x202, x203, x204, x205, x206, x207, x208, x209, x210, x211, x212, x213, x214, x215, x216, x217, x218, x219, x220, x221, x222, x223, x224, x225, x226, x227, x228, x229, x230, x231, x232, x233, x234, x235, x236, x237, u238, u239, u240, u241, u242, u243, u244, u245], []⟩ w')) :
    Code.wp Try.prog fpBlk2 Q0 ⟨#[u0, u1, u2, u3, u4, .pointer (some ⟨bf, 0, none⟩), u6, u7, .pointer (some ⟨bw, 0, none⟩), u9, .pointer (some ⟨bo, 0, none⟩), u11, u12, u13, u14, u15, u16, u17, u18, u19, u20, u21, u22, u23, u24, u25, u26, u27, u28, u29, u30, u31, u32, u33, u34, u35, u36, u37, u38, u39, u40, u41, u42, u43, u44, u45, u46, u47, u48, u49, u50, u51, u52, u53, u54, u55, u56, u57, u58, u59, u60, u61, u62, u63, u64, u65, u66, u67, u68, u69, u70, u71, u72, u73, u74, u75, u76, u77, u78, u79, u80, u81, u82, u83, u84, u85, u86, u87, u88, u89, u90, u91, u92, u93, .int .i64 1, u95, u96, u97, u98, u99, u100, u101, u102, u103, u104, u105, u106, u107, u108, u109, u110, u111, u112, u113, u114, u115, u116, u117, u118, u119, u120, u121, u122, u123, u124, u125, u126, u127, u128, u129, u130, u131, u132, u133, u134, u135, u136, u137, u138, u139, u140, u141, u142, u143, u144, u145, u146, u147, u148, u149, u150, u151, u152, u153, u154, u155, u156, u157, u158, u159, u160, u161, u162, u163, u164, u165, u166, u167, u168, u169, u170, u171, u172, u173, u174, u175, u176, u177, u178, u179, u180, u181, u182, u183, u184, u185, u186, u187, u188, u189, u190, u191, u192, u193, u194, u195, u196, u197, u198, u199, u200, u201, u202, u203, u204, u205, u206, u207, u208, u209, u210, u211, u212, u213, u214, u215, u216, u217, u218, u219, u220, u221, u222, u223, u224, u225, u226, u227, u228, u229, u230, u231, u232, u233, u234, u235, u236, u237, u238, u239, u240, u241, u242, u243, u244, u245], []⟩ w5 := by
  have hall : F.all.length ≤ 2400 := by have := HINV.out.all; omega
  have hposl : F.pos.length ≤ 60 := by have := HINV.out.len; omega
  have c0 := (H5.out.blk 2 rfl).cell 0
  have c1 := (H5.out.blk 2 rfl).cell 1
  have c2 := (H5.out.blk 2 rfl).cell 2
  simp at c0 c1 c2
  conv => arg 2; whnf
  go_wp2_with fail
  refine (flag_reader H5.out 0 rfl (by omega)).mono ?_
  rintro e w7 ⟨rfl, hst⟩
  have H7 := Lib.hid (show St w w7 [flagA bf ⟨F.bound, F.all, F.pos ++ [F.all.length]⟩, rflagA bw F, blkA bo #[.int .i64 1, .int .i64 r, .slice ax evs.length cx] 49] from hst); clear hst H5
  go_wp2_with fail
  refine (rflag_reader H7.out 1 rfl (by omega)).mono ?_
  rintro e w8 ⟨rfl, hst⟩
  have H8 := Lib.hid (hst.take 2); clear hst H7
  go_wp2_with fail
  exact HN.out _ _ _ _ _ _ _ _ _ _ _ _ _ _ _ _ _ _ _ _ _ _ _ _ _ _ _ _ _ _ _ _ _ _ _ _ _ _ _ _ _ _ _ _ _ _ _ _ _ _ _ _ _ _ _ _ _ _ _ _ _ _ _ _ _ _ _ _ _ _ _ _ _ _ _ _ _ _ _ _ _ _ _ _ _ _ _ _ _ _ _ _ _ _ _ _ _ _ _ _ _ _ _ _ _ _ _ _ _ _ _ _ _ _ _ _ _ _ _ _ _ _ _ _ _ _ _ _ _ _ _ _ _ _ _ _ _ _ _ _ _ _ _ _ _ _ _ _ _ _ _ _ _ _ _ _ _ _ _ _ _ _ (⟨_, HINV.out.reader, H8.out⟩)


set_option maxRecDepth 1000000 in
set_option maxHeartbeats 4000000 in
theorem fp_read {u0 u1 u2 u3 u4 u6 u7 u9 u11 u12 u13 u14 u15 u16 u17 u18 u19 u20 u21 u22 u23 u24 u25 u26 u27 u28 u29 u30 u31 u32 u33 u34 u35 u36 u37 u38 u39 u40 u41 u42 u43 u44 u45 u46 u47 u48 u49 u50 u51 u52 u53 u54 u55 u56 u57 u58 u59 u60 u61 u62 u63 u64 u65 u66 u67 u68 u69 u70 u71 u72 u73 u74 u75 u76 u77 u78 u79 u80 u81 u82 u83 u84 u85 u86 u87 u88 u89 u90 u91 u92 u93 u95 u96 u97 u98 u99 u100 u101 u102 u103 u104 u105 u106 u107 u108 u109 u110 u111 u112 u113 u114 u115 u116 u117 u118 u119 u120 u121 u122 u123 u124 u125 u126 u127 u128 u129 u130 u131 u132 u133 u134 u135 u136 u137 u138 u139 u140 u141 u142 u143 u144 u145 u146 u147 u148 u149 u150 u151 u152 u153 u154 u155 u156 u157 u158 u159 u160 u161 u162 u163 u164 u165 u166 u167 u168 u169 u170 u171 u172 u173 u174 u175 u176 u177 u178 u179 u180 u181 u182 u183 u184 u185 u186 u187 u188 u189 u190 u191 u192 u193 u194 u195 u196 u197 u198 u199 u200 u201 u202 u203 u204 u205 u206 u207 u208 u209 u210 u211 u212 u213 u214 u215 u216 u217 u218 u219 u220 u221 u222 u223 u224 u225 u226 u227 u228 u229 u230 u231 u232 u233 u234 u235 u236 u237 u238 u239 u240 u241 u242 u243 u244 u245 : Value} {bf bw bo : Nat} {w w5 : World} {S : Nat → Prop} {r : Int} {ax : Option Addr} {cx B i : Nat} {evs : List EvV} {F : FlagV} (Q0 : Exit → Act → World → Prop) (HRX : Hid (Rd S w (.slice ax evs.length cx) evs.length (flatEv evs))) (HSB : Hid (∀ i, S i → i < w.heap.size)) (HINV : Hid (FInv B i F))
    (H5 : Hid (St w w5 [flagA bf F, rflagA bw F, blkA bo #[.int .i64 2, .int .i64 r, .slice ax evs.length cx] 49])) (hB1 : 1 ≤ B) (hB2 : B ≤ 20) (hi60 : i < 60)
    (HN : Hid (∀ (x4 x11 x12 x13 x14 x15 x16 x17 x18 x19 x20 x21 x22 x23 x24 x25 x26 x27 x95 x96 x97 x98 x99 x100 x101 x102 x103 x104 x105 x106 x107 x108 x109 x110 x111 x112 x113 x114 x115 x116 x117 x118 x119 x120 x121 x122 x123 x124 x125 x126 x127 x128 x129 x130 x131 x132 x133 x134 x135 x136 x137 x138 x139 x140 x141 x142 x143 x144 x145 x146 x147 x148 x149 x150 x151 x152 x153 x154 x155 x156 x157 x158 x159 x160 x161 x162 x163 x164 x165 x166 x167 x168 x169 x170 x171 x172 x173 x174 x175 x176 x177 x178 x179 x180 x181 x182 x183 x184 x185 x186 x187 x188 x189 x190 x191 x192 x193 x194 x195 x196 x197 x198 x199 x200 x201 x202 x203 x204 x205 x206 x207 x208 x209 x210 x211 x212 x213 x214 x215 x216 x217 x218 x219 x220 x221 x222 x223 x224 x225 x226 x227 x228 x229 x230 x231 x232 x233 x234 x235 x236 x237 : Value) (w' : World), FpRel w bf bw B i w' → Q0 .normal ⟨#[u0, u1, u2, u3, x4, .pointer (some ⟨bf, 0, none⟩), u6, u7, .pointer (some ⟨bw, 0, none⟩), u9, .pointer (some ⟨bo, 0, none⟩), x11, x12, x13, x14, x15, x16, x17, x18, x19, x20, x21, x22, x23, x24, x25, x26, x27, u28, u29, u30, u31, u32, u33, u34, u35, u36, u37, u38, u39, u40, u41, u42, u43, u44, u45, u46, u47, u48, u49, u50, u51, u52, u53, u54, u55, u56, u57, u58, u59, u60, u61, u62, u63, u64, u65, u66, u67, u68, u69, u70, u71, u72, u73, u74, u75, u76, u77, u78, u79, u80, u81, u82, u83, u84, u85, u86, u87, u88, u89, u90, u91, u92, u93, .int .i64 2, x95, x96, x97, x98, x99, x100, x101, x102, x103, x104, x105, x106, x107, x108, x109, x110, x111, x112, x113, x114, x115, x116, x117, x118, x119, x120, x121, x122, x123, x124, x125, x126, x127, x128, x129, x130, x131, x132, x133, x134, x135, x136, x137, x138, x139, x140, x141, x142, x143, x144, x145, x146, x147, x148, x149, x150, x151, x152, x153, x154, x155, x156, x157, x158, x159, x160, x161, x162, x163, x164, x165, x166, x167, x168, x169, x170, x171, x172, x173, x174, x175, x176, x177, x178, x179, x180, x181, x182, x183, x184, x185, x186, x187, x188, x189, x190, x191, x192, x193, x194, x195, x196, x197, x198, x199, x200, x201, x202, x203, x204, x205, x206, x207, x208, x209, x210, x211, x212, x213, x214, x215, x216, x217, x218, x219, x220, x221, x222, x223, x224, x225, x226, x227, x228, x229, x230, x231, x232, x233, x234, x235, x236, x237, u238, u239, u240, u241, u242, u243, u244, u245], []⟩ w')) (HPan : Hid (∀ c a w, Q0 (.panic c) a w → False)) (HR : Hid (∀ (x11 x12 x13 x14 x15 x16 x17 x18 x19 x20 x21 x22 x23 x24 x25 x26 x27 x95 x96 x97 x98 x99 x100 x101 x102 x103 x104 x105 x106 x107 x108 x109 x110 x111 x112 x113 x114 x115 x116 x117 x118 x119 x120 x121 x122 x123 x124 x125 x126 x127 x128 x129 x130 x131 x132 x133 x134 x135 x136 x137 x138 x139 x140 x141 x142 x143 x144 x145 x146 x147 x148 x149 x150 x151 x152 x153 x154 x155 x156 x157 x158 x159 x160 x161 x162 x163 x164 x165 x166 x167 x168 x169 x170 x171 x172 x173 x174 x175 x176 x177 x178 x179 x180 x181 x182 x183 x184 x185 x186 x187 x188 x189 x190 x191 x192 x193 x194 x195 x196 x197 x198 x199 x200 x201 x202 x203 x204 x205 x206 x207 x208 x209 x210 x211 x212 x213 x214 x215 x216 x217 x218 x219 x220 x221 x222 x223 x224 x225 x226 x227 x228 x229 x230 x231 x232 x233 x234 x235 x236 x237 : Value) (w' : World), Below w.heap.size w w' → Q0 .ret ⟨#[u0, u1, u2, u3, .bool true, .pointer (some ⟨bf, 0, none⟩), u6, u7, .pointer (some ⟨bw, 0, none⟩), u9, .pointer (some ⟨bo, 0, none⟩), x11, x12, x13, x14, x15, x16, x17, x18, x19, x20, x21, x22, x23, x24, x25, x26, x27, u28, u29, u30, u31, u32, u33, u34, u35, u36, u37, u38, u39, u40, u41, u42, u43, u44, u45, u46, u47, u48, u49, u50, u51, u52, u53, u54, u55, u56, u57, u58, u59, u60, u61, u62, u63, u64, u65, u66, u67, u68, u69, u70, u71, u72, u73, u74, u75, u76, u77, u78, u79, u80, u81, u82, u83, u84, u85, u86, u87, u88, u89, u90, u91, u92, u93, .int .i64 2, x95, x96, x97, x98, x99, x100, x101, x102, x103, x104, x105, x106, x107, x108, x109, x110, x111, x112, x113, x114, x115, x116, x117, x118, x119, x120, x121, x122, x123, x124, x125, x126, x127, x128, x129, x130, x131, x132, x133, x134, x135, x136, x137, x138, x139, x140, x141, x142, x143, x144, x145, x146, x147, x148, x149, x150, x151, x152, x153, x154, x155, x156, x157, x158, x159, x160, x161, x162, x163, x164, x165, x166, x167, x168, x169, x170, x171, x172, x173, x174, x175, x176, x177, x178, x179, x180, x181, x182, x183, x184, x185, x186, x187, x188, x189, x190, x191, x192, x193, x194, x195, x196, x197, x198, x199, x200, x201, x202, x203, x204, x205, x206, x207, x208, x209, x210, x211, x212, x213, x214, x215, x216, x217, x218, x219, x220, x221, x222, x223, x224, x225, x226, x227, x228, x229, x230, x231, x232, x233, x234, x235, x236, x237, u238, u239, u240, u241, u242, u243, u244, u245], []⟩ w')) :
    Code.wp Try.prog fpBlk2 Q0 ⟨#[u0, u1, u2, u3, u4, .pointer (some ⟨bf, 0, none⟩), u6, u7, .pointer (some ⟨bw, 0, none⟩), u9, .pointer (some ⟨bo, 0, none⟩), u11, u12, u13, u14, u15, u16, u17, u18, u19, u20, u21, u22, u23, u24, u25, u26, u27, u28, u29, u30, u31, u32, u33, u34, u35, u36, u37, u38, u39, u40, u41, u42, u43, u44, u45, u46, u47, u48, u49, u50, u51, u52, u53, u54, u55, u56, u57, u58, u59, u60, u61, u62, u63, u64, u65, u66, u67, u68, u69, u70, u71, u72, u73, u74, u75, u76, u77, u78, u79, u80, u81, u82, u83, u84, u85, u86, u87, u88, u89, u90, u91, u92, u93, .int .i64 2, u95, u96, u97, u98, u99, u100, u101, u102, u103, u104, u105, u106, u107, u108, u109, u110, u111, u112, u113, u114, u115, u116, u117, u118, u119, u120, u121, u122, u123, u124, u125, u126, u127, u128, u129, u130, u131, u132, u133, u134, u135, u136, u137, u138, u139, u140, u141, u142, u143, u144, u145, u146, u147, u148, u149, u150, u151, u152, u153, u154, u155, u156, u157, u158, u159, u160, u161, u162, u163, u164, u165, u166, u167, u168, u169, u170, u171, u172, u173, u174, u175, u176, u177, u178, u179, u180, u181, u182, u183, u184, u185, u186, u187, u188, u189, u190, u191, u192, u193, u194, u195, u196, u197, u198, u199, u200, u201, u202, u203, u204, u205, u206, u207, u208, u209, u210, u211, u212, u213, u214, u215, u216, u217, u218, u219, u220, u221, u222, u223, u224, u225, u226, u227, u228, u229, u230, u231, u232, u233, u234, u235, u236, u237, u238, u239, u240, u241, u242, u243, u244, u245], []⟩ w5 := by
  have hall : F.all.length ≤ 2400 := by have := HINV.out.all; omega
  have hposl : F.pos.length ≤ 60 := by have := HINV.out.len; omega
  have c0 := (H5.out.blk 2 rfl).cell 0
  have c1 := (H5.out.blk 2 rfl).cell 1
  have c2 := (H5.out.blk 2 rfl).cell 2
  simp at c0 c1 c2
  conv => arg 2; whnf
  by_cases hr : 0 ≤ r ∧ r < F.pos.length
  · obtain ⟨k, rfl⟩ : ∃ k : Nat, r = k := ⟨r.toNat, by omega⟩
    obtain ⟨p, hp⟩ : ∃ p, F.pos[k]? = some p := ⟨_, List.getElem?_eq_getElem (by omega)⟩
    have hpa := HINV.out.pos p (List.mem_of_getElem? hp)
    obtain ⟨d, hd⟩ : ∃ d, p + d = F.all.length := ⟨F.all.length - p, by omega⟩
    have hfb : F.bound ≤ 1000 := by rw [HINV.out.bound]; omega
    by_cases hlag : F.bound < d
    · have HC := Lib.hid (flag_read_lag H5.out 0 rfl (by omega) (by omega) hfb k p d hp hd hlag)
      go_wp2_with fail
      refine (HC.out).mono ?_
      rintro e w7 ⟨rfl, hst⟩
      have H7 := Lib.hid (show St w w7 [flagA bf (F.seen k), rflagA bw F, blkA bo #[.int .i64 2, .int .i64 (k : Int), .slice ax evs.length cx] 49] from hst); clear hst H5 HC c0 c1 c2
      have c1 := (H7.out.blk 2 rfl).cell 1
      simp at c1
      have HC := Lib.hid (rflag_read H7.out 1 rfl (by omega) (by omega) hfb k p d hp hd)
      have HLG := Lib.hid hlag
      clear hp hd hlag
      go_wp2_with fail
      refine (HC.out).mono ?_
      rintro e w8 (⟨_, rfl, hst⟩ | ⟨hbad, _⟩)
      rotate_left
      · exfalso; have := HLG.out; omega
      have H8 := Lib.hid (hst.take 2); clear hst H7 HC
      go_wp2_with fail
      refine (same_ev _ _ [] _ _ _ (Own.nil Nope _ 34 2).rd (Own.nil Nope _ 34 2).rd).mono ?_
      rintro e w9 ⟨rfl, hk9⟩
      have H9 := Lib.hid (H8.out.keep hk9); clear hk9 H8
      go_wp2_with fail
      exact HN.out _ _ _ _ _ _ _ _ _ _ _ _ _ _ _ _ _ _ _ _ _ _ _ _ _ _ _ _ _ _ _ _ _ _ _ _ _ _ _ _ _ _ _ _ _ _ _ _ _ _ _ _ _ _ _ _ _ _ _ _ _ _ _ _ _ _ _ _ _ _ _ _ _ _ _ _ _ _ _ _ _ _ _ _ _ _ _ _ _ _ _ _ _ _ _ _ _ _ _ _ _ _ _ _ _ _ _ _ _ _ _ _ _ _ _ _ _ _ _ _ _ _ _ _ _ _ _ _ _ _ _ _ _ _ _ _ _ _ _ _ _ _ _ _ _ _ _ _ _ _ _ _ _ _ _ _ _ _ _ _ _ _ (⟨_, HINV.out.seen k, H9.out⟩)
    · have HC := Lib.hid (flag_read_yes H5.out 0 rfl (by omega) (by omega) hfb k p d hp hd (by omega))
      go_wp2_with fail
      refine (HC.out).mono ?_
      rintro e w7 ⟨a7, n7, c7, rfl, rfl, hst⟩
      have H7 := Lib.hid (show St w w7 [flagA bf (F.seen k), rflagA bw F, blkA bo #[.int .i64 2, .int .i64 (k : Int), .slice ax evs.length cx] 49, slA 34 2 (.slice a7 n7 c7) n7 (flatEv (F.all.drop p))] from hst); clear hst H5 HC c0 c1 c2
      have c1 := (H7.out.blk 2 rfl).cell 1
      simp at c1
      have HC := Lib.hid (rflag_read H7.out 1 rfl (by omega) (by omega) hfb k p n7 hp hd)
      have HLG := Lib.hid hlag
      have HDL := Lib.hid (show (F.all.drop p).length = n7 by rw [List.length_drop]; omega)
      clear hp hd hlag
      go_wp2_with fail
      refine (HC.out).mono ?_
      rintro e w8 (⟨hbad, _⟩ | ⟨_, a8, n8, c8, rfl, e8, hst⟩)
      · exfalso; have := HLG.out; omega
      subst e8
      have H8 := Lib.hid (show St w w8 [flagA bf (F.seen k), rflagA bw (F.seen k), blkA bo #[.int .i64 2, .int .i64 (k : Int), .slice ax evs.length cx] 49, slA 34 2 (.slice a7 n8 c7) n8 (flatEv (F.all.drop p)), slA 34 2 (.slice a8 n8 c8) n8 (flatEv (F.all.drop p))] from hst); clear hst H7 HC
      obtain ⟨S1, _, r1, _⟩ := H8.out.rd 3 rfl
      obtain ⟨S2, _, r2, _⟩ := H8.out.rd 4 rfl
      have R1 := Lib.hid r1
      have R2 := Lib.hid r2
      clear r1 r2
      go_wp2_with fail
      refine (same_ev _ _ (F.all.drop p) _ S1 S2 (by rw [HDL.out]; exact R1.out) (by rw [HDL.out]; exact R2.out)).mono ?_
      rintro e w9 ⟨rfl, hk9⟩
      have H9 := Lib.hid ((H8.out.keep hk9).take 2); clear hk9 H8 R1 R2
      go_wp2_with fail
      exact HN.out _ _ _ _ _ _ _ _ _ _ _ _ _ _ _ _ _ _ _ _ _ _ _ _ _ _ _ _ _ _ _ _ _ _ _ _ _ _ _ _ _ _ _ _ _ _ _ _ _ _ _ _ _ _ _ _ _ _ _ _ _ _ _ _ _ _ _ _ _ _ _ _ _ _ _ _ _ _ _ _ _ _ _ _ _ _ _ _ _ _ _ _ _ _ _ _ _ _ _ _ _ _ _ _ _ _ _ _ _ _ _ _ _ _ _ _ _ _ _ _ _ _ _ _ _ _ _ _ _ _ _ _ _ _ _ _ _ _ _ _ _ _ _ _ _ _ _ _ _ _ _ _ _ _ _ _ _ _ _ _ _ _ (⟨_, HINV.out.seen k, H9.out⟩)
  · have HC := Lib.hid (flag_read_no H5.out 0 rfl (by omega) r (by omega))
    go_wp2_with fail
    refine (HC.out).mono ?_
    rintro e w7 ⟨rfl, hk7⟩
    have H7 := Lib.hid (H5.out.keep hk7); clear hk7 H5 HC c0 c1 c2
    have c1 := (H7.out.blk 2 rfl).cell 1
    simp at c1
    have HC := Lib.hid (rflag_read_no H7.out 1 rfl (by omega) r (by omega))
    go_wp2_with fail
    refine (HC.out).mono ?_
    rintro e w8 ⟨rfl, hk8⟩
    have H8 := Lib.hid ((H7.out.keep hk8).take 2); clear hk8 H7 HC
    go_wp2_with fail
    refine (same_ev _ _ [] _ _ _ (Own.nil Nope _ 34 2).rd (Own.nil Nope _ 34 2).rd).mono ?_
    rintro e w9 ⟨rfl, hk9⟩
    have H9 := Lib.hid (H8.out.keep hk9); clear hk9 H8
    go_wp2_with fail
    exact HN.out _ _ _ _ _ _ _ _ _ _ _ _ _ _ _ _ _ _ _ _ _ _ _ _ _ _ _ _ _ _ _ _ _ _ _ _ _ _ _ _ _ _ _ _ _ _ _ _ _ _ _ _ _ _ _ _ _ _ _ _ _ _ _ _ _ _ _ _ _ _ _ _ _ _ _ _ _ _ _ _ _ _ _ _ _ _ _ _ _ _ _ _ _ _ _ _ _ _ _ _ _ _ _ _ _ _ _ _ _ _ _ _ _ _ _ _ _ _ _ _ _ _ _ _ _ _ _ _ _ _ _ _ _ _ _ _ _ _ _ _ _ _ _ _ _ _ _ _ _ _ _ _ _ _ _ _ _ _ _ _ _ _ (⟨_, HINV.out.same, H9.out⟩)

end Go.Proofs.Ytcmbbkaioopkhaa
