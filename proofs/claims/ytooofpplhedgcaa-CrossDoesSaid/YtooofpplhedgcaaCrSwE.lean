/- CrossDoes: the switch, a case of it. -/
import Derived.Test.YtooofpplhedgcaaCrSw
import Derived.Deep.Cut
import Derived.Deep.CutRange
import Derived.Deep.CutBlock
set_option linter.unusedVariables false
set_option linter.unusedSimpArgs false
namespace Go.Proofs.Ytooofpplhedgcaa
open Go.RowKit
set_option maxRecDepth 1000000
set_option maxHeartbeats 2500000
theorem swP (u0 u1 u2 u10 u14 u15 u16 u17 u18 u19 u20 u21 u22 u23 u24 u25 u26 u27 u28 u29 u30 u31 u32 u33 u34 u35 u36 u37 u38 u39 u40 u41 u42 u43 u44 u45 u46 u47 u48 u49 u50 u51 u52 u53 u54 u55 u56 u57 u58 u59 u60 u61 u62 u63 u64 u65 u66 u67 u68 u69 u70 u71 u72 u73 u74 u75 u76 u77 u78 u79 u80 u81 u82 u83 u84 u85 u86 u87 u88 u89 u90 u91 u92 u93 u94 u95 u96 u97 u98 u99 u100 u101 u102 u103 u104 u105 u106 u107 u108 u109 u110 u111 u112 u113 u114 u115 u116 u117 u118 u119 u120 u121 u122 u123 u124 u125 u126 u127 u128 u129 u130 u131 u132 u133 u134 u135 u136 u137 u138 u139 u140 u141 u142 u143 u144 u145 u146 u147 u148 u149 u150 u151 u152 u153 u154 u155 u156 u157 u158 u159 u160 u161 u162 u163 u164 u165 u166 u167 u168 u169 u170 u171 u172 u173 u174 u175 u176 u177 u178 u179 u180 u181 u182 u183 u184 u185 u186 u187 u188 u189 u190 u191 u192 u193 u194 u195 u196 u197 u198 u199 u200 u201 u202 u203 u204 u205 u206 u207 u208 u209 u210 u211 u212 u213 u214 u215 u216 u217 u218 u219 u220 u221 u222 u223 u224 u225 u226 u227 u228 u229 u230 u231 u232 u233 u234 u235 u236 u237 u238 u239 u240 u241 u242 u243 u244 u245 u246 u247 u248 u249 u250 u251 u252 u253 u254 u255 u256 u257 u258 u259 u260 u261 u262 u263 u264 u265 u266 u267 u268 u269 u270 u271 u272 u273 u274 u275 u276 u277 u278 u279 u280 u281 u282 u283 u284 u285 u286 u287 u288 u289 u290 u291 u292 : Value) {w u : World} {g sb pb qb rb kb fb ob xb K mc : Nat} {mo : Option Addr} {m : List Int} {Rv Pv : Nat → Value} {As : Nat → Ast} {F : Nat → Nat → Value} {ex : List Ast} {kd who se it n : Int} {Kont : Act → World → Prop} {Q : Exit → Act → World → Prop}
    (hQ : ∀ (ch : List PanicEntry) (a a' : Act) (w : World), a.defers = a'.defers → Q (Exit.panic ch) a w → Q (Exit.panic ch) a' w) (hOB : (cellsA ob #[.int .i64 kd, .int .i64 who, .int .i64 se, .int .i64 it, .int .i64 n] 72) ∈ ex) (hXB : (cellsA xb #[.int .i64 1, .int .i64 3, .int .i64 3, .int .i64 3, .int .i64 2, .int .i64 se] 32) ∈ ex) (hml : m.length = 61) (hK3 : K < 3) (hrg : -1099511627776 ≤ it ∧ it ≤ 1099511627776) (h4 : Own w u (storeA g sb m :: (As K) :: CB pb qb rb kb fb Rv Pv F (.slice mo 61 mc) m ex)) (b3 : (kd == 3) = false) (b4 : (kd == 4) = false) (b57 : decide (5 ≤ kd) = false ∨ (decide (5 ≤ kd) = true ∧ decide (kd ≤ 7) = false)) {s : CS} {nb : Nat} (hok : OkC s) (hA : As K = objC nb s) (hF : ∀ j, j < 9 → F K j = refFC s j) (hp : s.parks = true) (hv1 : Rv K = .pointer none) (hv2 : Pv K = .pointer (some ⟨nb, 0, none⟩))
    (hK : ∀ (x14 x15 x16 x17 x18 x19 x20 x21 x22 x23 x24 x25 x81 x82 x83 x84 x85 x86 x87 x88 x89 x90 x91 x92 x93 x94 x95 x96 x97 x98 x99 x100 x101 x102 x103 x104 x105 x106 x107 x108 x109 x110 x111 x112 x113 x114 x115 x116 x117 x118 x119 x120 x121 x122 x123 x124 x125 x126 x127 x128 x129 x130 x131 x132 x133 x134 x135 x136 x137 x138 x139 x140 x141 x142 x143 x144 x145 x146 x147 x148 x149 x150 x151 x152 x153 x154 x155 x156 x157 x158 x159 x160 x161 x162 x163 x164 x165 x166 x167 x168 x169 x170 x171 x172 x173 x174 x175 x176 x177 x178 x179 x180 x181 x182 x183 x184 x185 x186 x187 x188 x189 x190 x191 x192 x193 x194 x195 x196 x197 x198 x199 x200 x201 x202 x203 x204 x205 x206 x207 x208 x209 x210 x211 x212 x213 x214 x215 x216 x217 x218 x219 x220 x221 x222 x223 x224 x225 x226 x227 x228 x229 x230 x231 x232 x233 x234 x235 x236 x237 x238 x239 x240 x241 x242 x243 x244 x245 x246 x247 x248 x249 x250 x251 x252 x253 x254 x255 x256 x257 x258 x259 x260 x261 x262 x263 x264 x265 mv : Value) (w' : World), SwOut w w' g sb pb qb rb kb fb K Rv Pv F ex mv → Kont ⟨#[u0, u1, u2, (.pointer (some ⟨pb, 0, none⟩)), (.pointer (some ⟨qb, 0, none⟩)), (.pointer (some ⟨g, 0, none⟩)), mv, (.slice (some ⟨rb, 0, none⟩) 3 3), (.slice (some ⟨kb, 0, none⟩) 3 3), (.slice (some ⟨fb, 0, none⟩) 3 3), u10, (.pointer (some ⟨ob, 0, none⟩)), (.int .i64 (K : Int)), (.pointer (some ⟨xb, 0, none⟩)), x14, x15, x16, x17, x18, x19, x20, x21, x22, x23, x24, x25, u26, u27, u28, u29, u30, u31, u32, u33, u34, u35, u36, u37, u38, u39, u40, u41, u42, u43, u44, u45, u46, u47, u48, u49, u50, u51, u52, u53, u54, u55, u56, u57, u58, u59, u60, u61, u62, u63, u64, u65, u66, u67, u68, u69, u70, u71, u72, u73, u74, u75, u76, u77, u78, u79, u80, x81, x82, x83, x84, x85, x86, x87, x88, x89, x90, x91, x92, x93, x94, x95, x96, x97, x98, x99, x100, x101, x102, x103, x104, x105, x106, x107, x108, x109, x110, x111, x112, x113, x114, x115, x116, x117, x118, x119, x120, x121, x122, x123, x124, x125, x126, x127, x128, x129, x130, x131, x132, x133, x134, x135, x136, x137, x138, x139, x140, x141, x142, x143, x144, x145, x146, x147, x148, x149, x150, x151, x152, x153, x154, x155, x156, x157, x158, x159, x160, x161, x162, x163, x164, x165, x166, x167, x168, x169, x170, x171, x172, x173, x174, x175, x176, x177, x178, x179, x180, x181, x182, x183, x184, x185, x186, x187, x188, x189, x190, x191, x192, x193, x194, x195, x196, x197, x198, x199, x200, x201, x202, x203, x204, x205, x206, x207, x208, x209, x210, x211, x212, x213, x214, x215, x216, x217, x218, x219, x220, x221, x222, x223, x224, x225, x226, x227, x228, x229, x230, x231, x232, x233, x234, x235, x236, x237, x238, x239, x240, x241, x242, x243, x244, x245, x246, x247, x248, x249, x250, x251, x252, x253, x254, x255, x256, x257, x258, x259, x260, x261, x262, x263, x264, x265, u266, u267, u268, u269, u270, u271, u272, u273, u274, u275, u276, u277, u278, u279, u280, u281, u282, u283, u284, u285, u286, u287, u288, u289, u290, u291, u292], []⟩ w') :
    Code.wp Try.prog SW19 (Exit.then Kont Q) ⟨#[u0, u1, u2, (.pointer (some ⟨pb, 0, none⟩)), (.pointer (some ⟨qb, 0, none⟩)), (.pointer (some ⟨g, 0, none⟩)), (.slice mo 61 mc), (.slice (some ⟨rb, 0, none⟩) 3 3), (.slice (some ⟨kb, 0, none⟩) 3 3), (.slice (some ⟨fb, 0, none⟩) 3 3), u10, (.pointer (some ⟨ob, 0, none⟩)), (.int .i64 (K : Int)), (.pointer (some ⟨xb, 0, none⟩)), u14, u15, u16, u17, u18, u19, u20, u21, u22, u23, u24, u25, u26, u27, u28, u29, u30, u31, u32, u33, u34, u35, u36, u37, u38, u39, u40, u41, u42, u43, u44, u45, u46, u47, u48, u49, u50, u51, u52, u53, u54, u55, u56, u57, u58, u59, u60, u61, u62, u63, u64, u65, u66, u67, u68, u69, u70, u71, u72, u73, u74, u75, u76, u77, u78, u79, u80, u81, u82, u83, u84, u85, u86, u87, u88, u89, u90, u91, u92, u93, u94, u95, u96, u97, u98, u99, u100, u101, u102, u103, u104, u105, u106, u107, u108, u109, u110, u111, u112, u113, u114, u115, u116, u117, u118, u119, u120, u121, u122, u123, u124, u125, u126, u127, u128, u129, u130, u131, u132, u133, u134, u135, u136, u137, u138, u139, u140, u141, u142, u143, u144, u145, u146, u147, u148, u149, u150, u151, u152, u153, u154, u155, u156, u157, u158, u159, u160, u161, u162, u163, u164, u165, u166, u167, u168, u169, u170, u171, u172, u173, u174, u175, u176, u177, u178, u179, u180, u181, u182, u183, u184, u185, u186, u187, u188, u189, u190, u191, u192, u193, u194, u195, u196, u197, u198, u199, u200, u201, u202, u203, u204, u205, u206, u207, u208, u209, u210, u211, u212, u213, u214, u215, u216, u217, u218, u219, u220, u221, u222, u223, u224, u225, u226, u227, u228, u229, u230, u231, u232, u233, u234, u235, u236, u237, u238, u239, u240, u241, u242, u243, u244, u245, u246, u247, u248, u249, u250, u251, u252, u253, u254, u255, u256, u257, u258, u259, u260, u261, u262, u263, u264, u265, u266, u267, u268, u269, u270, u271, u272, u273, u274, u275, u276, u277, u278, u279, u280, u281, u282, u283, u284, u285, u286, u287, u288, u289, u290, u291, u292], []⟩ u := by
  have hK3i : (K : Int) < 3 := by omega
  have iK : IntKind.i64.wrap (K : Int) = (K : Int) := IntWalk.i64_in _ (by omega)
  have OC := Lib.hid (fun (w1 : World) (m1 m2 : List Int) (A : Ast) (Rv1 Pv1 : Nat → Value) (F1 : Nat → Nat → Value) (mv : Value) (l : List Ast) (h : Own w w1 (storeA g sb m1 :: A :: CB pb qb rb kb fb Rv1 Pv1 F1 mv m2 (ex ++ l))) => oc19 hOB hXB w1 m1 m2 A Rv1 Pv1 F1 mv l h)
  replace hml := Lib.hid hml
  replace hK := Lib.hid hK
  replace h4 := Lib.hid h4
  clear hOB hXB
  unfold SW19
  conv => arg 2; whnf
  obtain ⟨⟨o0, o2, o3_, o4⟩, -⟩ := OC.out _ _ _ _ _ _ _ _ [] (by simpa using h4.out)
  have r0 := (CB.rt h4.out hK3).1
  rw [hv1] at r0
  have r1 := (CB.pk h4.out hK3).1
  rw [hv2] at r1
  have h5 := Lib.hid (show Own w u (storeA g sb m :: (objC nb s) :: CB pb qb rb kb fb Rv Pv F (.slice mo 61 mc) m ex) from hA ▸ h4.out)
  clear h4 hA o2 o3_ o4
  have PV := Lib.hid hv1
  have QV := Lib.hid hv2
  clear hv1 hv2
  have SC := Lib.hid (fun (w1 : World) (l : List Ast) (h : Own w w1 (storeA g sb m :: (objC nb s) :: CB pb qb rb kb fb Rv Pv F (.slice mo 61 mc) m l)) => show Calls Try.prog 43 #[.agg #[.int .i64 1, .int .i64 3, .int .i64 3, .int .i64 3], .agg #[.bool s.parks, .int .i64 2, .int .i64 s.se, .int .i64 s.it, .int .i64 s.n, .int .i64 (s.at_ : Int), .int .i64 s.st, .int .i64 s.fr, .bool s.got], .slice mo 61 mc] w1 fun e w' => ∃ ao' c', e = .returned (.tuple #[.agg #[.bool (stepC s m).1.parks, .int .i64 2, .int .i64 (stepC s m).1.se, .int .i64 (stepC s m).1.it, .int .i64 (stepC s m).1.n, .int .i64 ((stepC s m).1.at_ : Int), .int .i64 (stepC s m).1.st, .int .i64 (stepC s m).1.fr, .bool (stepC s m).1.got], .slice ao' 61 c']) ∧ Own w w' (storeA g sb m :: (objC nb s) :: CB pb qb rb kb fb Rv Pv F (.slice ao' 61 c') (stepC s m).2 l) from by
    have hl := (stepC_len s m).trans hml.out
    have q := CB.step (g := g) (sb := sb) (m := m) (m' := m) (mo := mo) (mc := mc) hml.out (by rw [hml.out]; exact h) hok
    rw [hml.out, hl] at q
    exact q)
  have FC := Lib.hid (fun (w1 : World) (m1 m2 : List Int) (mv : Value) (l : List Ast) (A : Ast) (h : Own w w1 (storeA g sb m1 :: A :: CB pb qb rb kb fb Rv Pv F mv m2 l)) => show w1.cell? ⟨fb, K * 9, none⟩ = some (.bool s.parks) ∧ w1.cell? ⟨fb, K * 9 + 1, none⟩ = some (.int .i64 2) ∧ w1.cell? ⟨fb, K * 9 + 2, none⟩ = some (.int .i64 s.se) ∧ w1.cell? ⟨fb, K * 9 + 3, none⟩ = some (.int .i64 s.it) ∧ w1.cell? ⟨fb, K * 9 + 4, none⟩ = some (.int .i64 s.n) ∧ w1.cell? ⟨fb, K * 9 + 5, none⟩ = some (.int .i64 (s.at_ : Int)) ∧ w1.cell? ⟨fb, K * 9 + 6, none⟩ = some (.int .i64 s.st) ∧ w1.cell? ⟨fb, K * 9 + 7, none⟩ = some (.int .i64 s.fr) ∧ w1.cell? ⟨fb, K * 9 + 8, none⟩ = some (.bool s.got) from ⟨(CB.ref h hK3 (j := 0) (by omega)).1.trans (congrArg some (hF 0 (by omega))), (CB.ref h hK3 (j := 1) (by omega)).1.trans (congrArg some (hF 1 (by omega))), (CB.ref h hK3 (j := 2) (by omega)).1.trans (congrArg some (hF 2 (by omega))), (CB.ref h hK3 (j := 3) (by omega)).1.trans (congrArg some (hF 3 (by omega))), (CB.ref h hK3 (j := 4) (by omega)).1.trans (congrArg some (hF 4 (by omega))), (CB.ref h hK3 (j := 5) (by omega)).1.trans (congrArg some (hF 5 (by omega))), (CB.ref h hK3 (j := 6) (by omega)).1.trans (congrArg some (hF 6 (by omega))), (CB.ref h hK3 (j := 7) (by omega)).1.trans (congrArg some (hF 7 (by omega))), (CB.ref h hK3 (j := 8) (by omega)).1.trans (congrArg some (hF 8 (by omega)))⟩)
  have hlen2 := Lib.hid ((stepC_len s m).trans hml.out)
  have hok2 := Lib.hid (hok.step m)
  have hpk2 := Lib.hid (stepC_same s m).1
  obtain ⟨s1, hs1⟩ : ∃ z, (stepC s m).1 = z := ⟨_, rfl⟩
  obtain ⟨m1, hm1⟩ : ∃ z, (stepC s m).2 = z := ⟨_, rfl⟩
  have PS := Lib.hid (fun (w1 : World) (l : List Ast) (h : Own w w1 (storeA g sb m :: objC nb s :: l)) => show Calls Try.prog 46 #[.pointer (some ⟨nb, 0, none⟩), .pointer (some ⟨g, 0, none⟩)] w1 fun e w' => e = .returned (.bool (decide (s1.at_ = 3))) ∧ Own w w' (storeA g sb m1 :: objC nb s1 :: l) from hs1 ▸ hm1 ▸ cpark hp hok hml.out 0 rfl h)
  rw [hs1, hm1] at SC
  rw [hm1] at hlen2
  rw [hs1] at hok2 hpk2
  clear hs1 hm1
  have hat3 : decide ((s1.at_ : Int) = 3) = decide (s1.at_ = 3) := by by_cases c : s1.at_ = 3 <;> simp [c] <;> omega
  have hat3b : ((s1.at_ : Int) == 3) = decide (s1.at_ = 3) := by by_cases c : s1.at_ = 3 <;> simp [c] <;> omega
  clear hok hF
  replace hp := Lib.hid hp
  go_upto_region 26 with fail
  go_cut [130] from 131 to 138 (fun v wx => v = .bool false ∧ u = wx)
  case first =>
    rcases b57 with b5 | ⟨b5, b7⟩
    · go_wp2_with fail
      go_meet
      exact ⟨rfl, rfl⟩
    · go_wp2_with fail
      go_meet
      exact ⟨rfl, rfl⟩
  case rest =>
    obtain ⟨rfl, rfl⟩ := hcut
    clear b57
    go_upto_region 42 with fail
    go_cut [24, 25] from 231 to 240 (fun wv sv wx => ∃ nb2 ao c, wv = .pointer (some ⟨nb2, 0, none⟩) ∧ sv = .slice ao 61 c ∧ Hid (Own w wx (storeA g sb m :: (objC nb s) :: CB pb qb rb kb fb Rv Pv F (.slice ao 61 c) m1 (ex ++ [cellsA nb2 #[.bool s1.parks, .int .i64 2, .int .i64 s1.se, .int .i64 s1.it, .int .i64 s1.n, .int .i64 (s1.at_ : Int), .int .i64 s1.st, .int .i64 s1.fr, .bool s1.got] 75]))))
    case first =>
      have KS := Lib.hid (fun (w' : World) (m2 : List Int) (mv : Value) (l : List Ast) (h : Own w w' (storeA g sb m :: (objC nb s) :: CB pb qb rb kb fb Rv Pv F mv m2 l)) => show (fun w' : World => (w'.cell? ⟨qb, 0, none⟩ = some (.int .i64 1) ∧ w'.cell? ⟨qb, 1, none⟩ = some (.int .i64 3) ∧ w'.cell? ⟨qb, 2, none⟩ = some (.int .i64 3) ∧ w'.cell? ⟨qb, 3, none⟩ = some (.int .i64 3)) ∧ (w'.cell? ⟨fb, K * 9, none⟩ = some (.bool s.parks) ∧ w'.cell? ⟨fb, K * 9 + 1, none⟩ = some (.int .i64 2) ∧ w'.cell? ⟨fb, K * 9 + 2, none⟩ = some (.int .i64 s.se) ∧ w'.cell? ⟨fb, K * 9 + 3, none⟩ = some (.int .i64 s.it) ∧ w'.cell? ⟨fb, K * 9 + 4, none⟩ = some (.int .i64 s.n) ∧ w'.cell? ⟨fb, K * 9 + 5, none⟩ = some (.int .i64 (s.at_ : Int)) ∧ w'.cell? ⟨fb, K * 9 + 6, none⟩ = some (.int .i64 s.st) ∧ w'.cell? ⟨fb, K * 9 + 7, none⟩ = some (.int .i64 s.fr) ∧ w'.cell? ⟨fb, K * 9 + 8, none⟩ = some (.bool s.got))) w' from ⟨(CB.plan h).2, FC.out _ _ _ _ _ _ h⟩)
      have h6 := h5.out.drewN 1
      have hS0 := KS.out _ _ _ _ h6
      refine lin_start (S := (fun w' : World => (w'.cell? ⟨qb, 0, none⟩ = some (.int .i64 1) ∧ w'.cell? ⟨qb, 1, none⟩ = some (.int .i64 3) ∧ w'.cell? ⟨qb, 2, none⟩ = some (.int .i64 3) ∧ w'.cell? ⟨qb, 3, none⟩ = some (.int .i64 3)) ∧ (w'.cell? ⟨fb, K * 9, none⟩ = some (.bool s.parks) ∧ w'.cell? ⟨fb, K * 9 + 1, none⟩ = some (.int .i64 2) ∧ w'.cell? ⟨fb, K * 9 + 2, none⟩ = some (.int .i64 s.se) ∧ w'.cell? ⟨fb, K * 9 + 3, none⟩ = some (.int .i64 s.it) ∧ w'.cell? ⟨fb, K * 9 + 4, none⟩ = some (.int .i64 s.n) ∧ w'.cell? ⟨fb, K * 9 + 5, none⟩ = some (.int .i64 (s.at_ : Int)) ∧ w'.cell? ⟨fb, K * 9 + 6, none⟩ = some (.int .i64 s.st) ∧ w'.cell? ⟨fb, K * 9 + 7, none⟩ = some (.int .i64 s.fr) ∧ w'.cell? ⟨fb, K * 9 + 8, none⟩ = some (.bool s.got)))) rfl 13 rfl hS0 ?_
      simp only [numbered, Nat.zero_add, Nat.reduceAdd]
      refine lin_take (v := ?_) (by kernel_rfl) (by kernel_rfl) (fun _ _ _ h => hQ _ _ _ _ (by rfl) h) (Or.inl ⟨by rfl, ?_⟩) (by assumption) ?_; (rotate_left; (intro wS hSw; (try dsimp only at hSw); go_simp; (try with_reducible rfl)); rotate_left); simp only [Act.put, List.setIfInBounds_toArray, List.set_cons_zero, List.set_cons_succ]
      refine lin_take (v := ?_) (by kernel_rfl) (by kernel_rfl) (fun _ _ _ h => hQ _ _ _ _ (by rfl) h) (Or.inl ⟨by rfl, ?_⟩) (by assumption) ?_; (rotate_left; (intro wS hSw; (try dsimp only at hSw); go_simp; (try with_reducible rfl)); rotate_left); simp only [Act.put, List.setIfInBounds_toArray, List.set_cons_zero, List.set_cons_succ]
      refine lin_take (v := ?_) (by kernel_rfl) (by kernel_rfl) (fun _ _ _ h => hQ _ _ _ _ (by rfl) h) (Or.inl ⟨by rfl, ?_⟩) (by assumption) ?_; (rotate_left; (intro wS hSw; (try dsimp only at hSw); go_simp; (try with_reducible rfl)); rotate_left); simp only [Act.put, List.setIfInBounds_toArray, List.set_cons_zero, List.set_cons_succ]
      refine lin_take (v := ?_) (by kernel_rfl) (by kernel_rfl) (fun _ _ _ h => hQ _ _ _ _ (by rfl) h) (Or.inl ⟨by rfl, ?_⟩) (by assumption) ?_; (rotate_left; (intro wS hSw; (try dsimp only at hSw); go_simp; (try with_reducible rfl)); rotate_left); simp only [Act.put, List.setIfInBounds_toArray, List.set_cons_zero, List.set_cons_succ]
      refine lin_take (v := ?_) (by kernel_rfl) (by kernel_rfl) (fun _ _ _ h => hQ _ _ _ _ (by rfl) h) (Or.inl ⟨by rfl, ?_⟩) (by assumption) ?_; (rotate_left; (intro wS hSw; (try dsimp only at hSw); go_simp; (try with_reducible rfl)); rotate_left); simp only [Act.put, List.setIfInBounds_toArray, List.set_cons_zero, List.set_cons_succ]
      refine lin_take (v := ?_) (by kernel_rfl) (by kernel_rfl) (fun _ _ _ h => hQ _ _ _ _ (by rfl) h) (Or.inl ⟨by rfl, ?_⟩) (by assumption) ?_; (rotate_left; (intro wS hSw; (try dsimp only at hSw); go_simp; (try with_reducible rfl)); rotate_left); simp only [Act.put, List.setIfInBounds_toArray, List.set_cons_zero, List.set_cons_succ]
      refine lin_rot ?_; simp only [List.cons_append, List.nil_append]
      refine lin_rot ?_; simp only [List.cons_append, List.nil_append]
      refine lin_rot ?_; simp only [List.cons_append, List.nil_append]
      refine lin_swap ?_
      refine lin_rot ?_; simp only [List.cons_append, List.nil_append]
      refine lin_rot ?_; simp only [List.cons_append, List.nil_append]
      refine lin_rot ?_; simp only [List.cons_append, List.nil_append]
      refine lin_rot ?_; simp only [List.cons_append, List.nil_append]
      refine lin_rot ?_; simp only [List.cons_append, List.nil_append]
      refine lin_rot ?_; simp only [List.cons_append, List.nil_append]
      refine lin_swap ?_
      refine lin_rot ?_; simp only [List.cons_append, List.nil_append]
      refine lin_rot ?_; simp only [List.cons_append, List.nil_append]
      refine lin_rot ?_; simp only [List.cons_append, List.nil_append]
      refine lin_rot ?_; simp only [List.cons_append, List.nil_append]
      refine lin_rot ?_; simp only [List.cons_append, List.nil_append]
      refine lin_rot ?_; simp only [List.cons_append, List.nil_append]
      refine lin_swap ?_
      refine lin_rot ?_; simp only [List.cons_append, List.nil_append]
      refine lin_rot ?_; simp only [List.cons_append, List.nil_append]
      refine lin_rot ?_; simp only [List.cons_append, List.nil_append]
      refine lin_rot ?_; simp only [List.cons_append, List.nil_append]
      refine lin_rot ?_; simp only [List.cons_append, List.nil_append]
      refine lin_rot ?_; simp only [List.cons_append, List.nil_append]
      refine lin_pair (by kernel_rfl) ?pone ?ptwo
      case' pone =>
        intro K' hK'
        go_simp
        refine (SC.out _ _ h6).mono ?_
        rintro e w8 ⟨ao, c, rfl, h8⟩
        have hS1 := KS.out _ _ _ _ h8
        refine hK'.out _ _ hS1 (fun hHeld => ?_)
        try simp only [Act.put, List.setIfInBounds_toArray, List.set_cons_zero, List.set_cons_succ]
        clear hK'
        refine lin_rot ?_; simp only [List.cons_append, List.nil_append]
        refine lin_take (v := ?_) (by kernel_rfl) (by kernel_rfl) (fun _ _ _ h => hQ _ _ _ _ (by rfl) h) (Or.inl ⟨by rfl, ?_⟩) (by assumption) ?_; (rotate_left; (intro wS hSw; (try dsimp only at hSw); go_simp; (try with_reducible rfl)); rotate_left); simp only [Act.put, List.setIfInBounds_toArray, List.set_cons_zero, List.set_cons_succ]
        refine lin_take (v := ?_) (by kernel_rfl) (by kernel_rfl) (fun _ _ _ h => hQ _ _ _ _ (by rfl) h) (Or.inl ⟨by rfl, ?_⟩) (by assumption) ?_; (rotate_left; (intro wS hSw; (try dsimp only at hSw); go_simp; (try with_reducible rfl)); rotate_left); simp only [Act.put, List.setIfInBounds_toArray, List.set_cons_zero, List.set_cons_succ]
        refine lin_take (v := ?_) (by kernel_rfl) (by kernel_rfl) (fun _ _ _ h => hQ _ _ _ _ (by rfl) h) (Or.inl ⟨by rfl, ?_⟩) (by assumption) ?_; (rotate_left; (intro wS hSw; (try dsimp only at hSw); go_simp; (try with_reducible rfl)); rotate_left); simp only [Act.put, List.setIfInBounds_toArray, List.set_cons_zero, List.set_cons_succ]
        refine lin_rot ?_; simp only [List.cons_append, List.nil_append]
        refine lin_rot ?_; simp only [List.cons_append, List.nil_append]
        refine lin_sole (by kernel_rfl) (fun K' hK' => ?_)
        go_simp
        have h9 := CB.box h8 #[.bool false, .int .i64 0, .int .i64 0, .int .i64 0, .int .i64 0, .int .i64 0, .int .i64 0, .int .i64 0, .bool false] 75
        replace h9 : Own w (w8.alloc (.cells #[.bool false, .int .i64 0, .int .i64 0, .int .i64 0, .int .i64 0, .int .i64 0, .int .i64 0, .int .i64 0, .bool false] 75)) (storeA g sb m :: (objC nb s) :: CB pb qb rb kb fb Rv Pv F (.slice ao 61 c) m1 (ex ++ [cellsA w8.heap.size #[.bool false, .int .i64 0, .int .i64 0, .int .i64 0, .int .i64 0, .int .i64 0, .int .i64 0, .int .i64 0, .bool false] 75])) := h9
        clear h8
        generalize w8.alloc (.cells #[.bool false, .int .i64 0, .int .i64 0, .int .i64 0, .int .i64 0, .int .i64 0, .int .i64 0, .int .i64 0, .bool false] 75) = u9 at *
        generalize w8.heap.size = nb2 at *
        have hS2 := KS.out _ _ _ _ h9
        refine hK'.out _ _ hS2 (fun hHeld => ?_)
        try simp only [Act.put, List.setIfInBounds_toArray, List.set_cons_zero, List.set_cons_succ]
        clear hK'
        refine lin_sole (by kernel_rfl) (fun K' hK' => ?_)
        have hU := h9.pm (CB.boxUp _)
        obtain ⟨z0, z1, z2, z3, z4, z5, z6, z7, z8⟩ := get9 hU
        obtain ⟨f0, f1, f2, f3, f4, f5, f6, f7, f8⟩ := get9f hU
        have hV := (set9 hU (.bool s1.parks) (.int .i64 2) (.int .i64 s1.se) (.int .i64 s1.it) (.int .i64 s1.n) (.int .i64 (s1.at_ : Int)) (.int .i64 s1.st) (.int .i64 s1.fr) (.bool s1.got)).pm (CB.boxUp _).symm
        clear hU h9
        go_simp
        replace hV : Own w (((((((((u9.setCell ⟨nb2, 0, none⟩ (.bool s1.parks)).setCell ⟨nb2, 1, none⟩ (.int .i64 2)).setCell ⟨nb2, 2, none⟩ (.int .i64 s1.se)).setCell ⟨nb2, 3, none⟩ (.int .i64 s1.it)).setCell ⟨nb2, 4, none⟩ (.int .i64 s1.n)).setCell ⟨nb2, 5, none⟩ (.int .i64 (s1.at_ : Int))).setCell ⟨nb2, 6, none⟩ (.int .i64 s1.st)).setCell ⟨nb2, 7, none⟩ (.int .i64 s1.fr)).setCell ⟨nb2, 8, none⟩ (.bool s1.got)) (storeA g sb m :: (objC nb s) :: CB pb qb rb kb fb Rv Pv F (.slice ao 61 c) m1 (ex ++ [cellsA nb2 #[.bool s1.parks, .int .i64 2, .int .i64 s1.se, .int .i64 s1.it, .int .i64 s1.n, .int .i64 (s1.at_ : Int), .int .i64 s1.st, .int .i64 s1.fr, .bool s1.got] 75])) := hV
        clear z0 f0 z1 f1 z2 f2 z3 f3 z4 f4 z5 f5 z6 f6 z7 f7 z8 f8
        generalize ((((((((u9.setCell ⟨nb2, 0, none⟩ (.bool s1.parks)).setCell ⟨nb2, 1, none⟩ (.int .i64 2)).setCell ⟨nb2, 2, none⟩ (.int .i64 s1.se)).setCell ⟨nb2, 3, none⟩ (.int .i64 s1.it)).setCell ⟨nb2, 4, none⟩ (.int .i64 s1.n)).setCell ⟨nb2, 5, none⟩ (.int .i64 (s1.at_ : Int))).setCell ⟨nb2, 6, none⟩ (.int .i64 s1.st)).setCell ⟨nb2, 7, none⟩ (.int .i64 s1.fr)).setCell ⟨nb2, 8, none⟩ (.bool s1.got) = u10 at *
        refine hK'.out _ _ (KS.out _ _ _ _ hV) (fun hHeld => ?_)
        try simp only [Act.put, List.setIfInBounds_toArray, List.set_cons_zero, List.set_cons_succ]
        clear hK'
        refine lin_take (v := ?_) (by kernel_rfl) (by kernel_rfl) (fun _ _ _ h => hQ _ _ _ _ (by rfl) h) (Or.inl ⟨by rfl, ?_⟩) (by assumption) ?_; (rotate_left; (intro wS hSw; (try dsimp only at hSw); go_simp; (try with_reducible rfl)); rotate_left); simp only [Act.put, List.setIfInBounds_toArray, List.set_cons_zero, List.set_cons_succ]
      case' ptwo =>
        intro K' hK'
        go_simp
        have h8' := (CB.box h5.out #[.bool false, .int .i64 0, .int .i64 0, .int .i64 0, .int .i64 0, .int .i64 0, .int .i64 0, .int .i64 0, .bool false] 75).drewN 1
        replace h8' : Own w (u.alloc (.cells #[.bool false, .int .i64 0, .int .i64 0, .int .i64 0, .int .i64 0, .int .i64 0, .int .i64 0, .int .i64 0, .bool false] 75)).drew (storeA g sb m :: (objC nb s) :: CB pb qb rb kb fb Rv Pv F (.slice mo 61 mc) m (ex ++ [cellsA u.heap.size #[.bool false, .int .i64 0, .int .i64 0, .int .i64 0, .int .i64 0, .int .i64 0, .int .i64 0, .int .i64 0, .bool false] 75])) := h8'
        refine hK'.out _ _ (KS.out _ _ _ _ h8') (fun hHeld => ?_)
        try simp only [Act.put, List.setIfInBounds_toArray, List.set_cons_zero, List.set_cons_succ]
        clear hK' h6
        generalize (u.alloc (.cells #[.bool false, .int .i64 0, .int .i64 0, .int .i64 0, .int .i64 0, .int .i64 0, .int .i64 0, .int .i64 0, .bool false] 75)).drew = u9 at *
        generalize u.heap.size = nb2 at *
        refine lin_sole (by kernel_rfl) (fun K' hK' => ?_)
        go_simp
        refine (SC.out _ _ h8').mono ?_
        rintro e w8 ⟨ao, c, rfl, h9⟩
        refine hK'.out _ _ (KS.out _ _ _ _ h9) (fun hHeld => ?_)
        try simp only [Act.put, List.setIfInBounds_toArray, List.set_cons_zero, List.set_cons_succ]
        clear hK' h8'
        refine lin_take (v := ?_) (by kernel_rfl) (by kernel_rfl) (fun _ _ _ h => hQ _ _ _ _ (by rfl) h) (Or.inl ⟨by rfl, ?_⟩) (by assumption) ?_; (rotate_left; (intro wS hSw; (try dsimp only at hSw); go_simp; (try with_reducible rfl)); rotate_left); simp only [Act.put, List.setIfInBounds_toArray, List.set_cons_zero, List.set_cons_succ]
        refine lin_take (v := ?_) (by kernel_rfl) (by kernel_rfl) (fun _ _ _ h => hQ _ _ _ _ (by rfl) h) (Or.inl ⟨by rfl, ?_⟩) (by assumption) ?_; (rotate_left; (intro wS hSw; (try dsimp only at hSw); go_simp; (try with_reducible rfl)); rotate_left); simp only [Act.put, List.setIfInBounds_toArray, List.set_cons_zero, List.set_cons_succ]
        refine lin_take (v := ?_) (by kernel_rfl) (by kernel_rfl) (fun _ _ _ h => hQ _ _ _ _ (by rfl) h) (Or.inl ⟨by rfl, ?_⟩) (by assumption) ?_; (rotate_left; (intro wS hSw; (try dsimp only at hSw); go_simp; (try with_reducible rfl)); rotate_left); simp only [Act.put, List.setIfInBounds_toArray, List.set_cons_zero, List.set_cons_succ]
        refine lin_sole (by kernel_rfl) (fun K' hK' => ?_)
        have hU := h9.pm (CB.boxUp _)
        obtain ⟨z0, z1, z2, z3, z4, z5, z6, z7, z8⟩ := get9 hU
        obtain ⟨f0, f1, f2, f3, f4, f5, f6, f7, f8⟩ := get9f hU
        have hV := (set9 hU (.bool s1.parks) (.int .i64 2) (.int .i64 s1.se) (.int .i64 s1.it) (.int .i64 s1.n) (.int .i64 (s1.at_ : Int)) (.int .i64 s1.st) (.int .i64 s1.fr) (.bool s1.got)).pm (CB.boxUp _).symm
        clear hU h9
        go_simp
        replace hV : Own w (((((((((w8.setCell ⟨nb2, 0, none⟩ (.bool s1.parks)).setCell ⟨nb2, 1, none⟩ (.int .i64 2)).setCell ⟨nb2, 2, none⟩ (.int .i64 s1.se)).setCell ⟨nb2, 3, none⟩ (.int .i64 s1.it)).setCell ⟨nb2, 4, none⟩ (.int .i64 s1.n)).setCell ⟨nb2, 5, none⟩ (.int .i64 (s1.at_ : Int))).setCell ⟨nb2, 6, none⟩ (.int .i64 s1.st)).setCell ⟨nb2, 7, none⟩ (.int .i64 s1.fr)).setCell ⟨nb2, 8, none⟩ (.bool s1.got)) (storeA g sb m :: (objC nb s) :: CB pb qb rb kb fb Rv Pv F (.slice ao 61 c) m1 (ex ++ [cellsA nb2 #[.bool s1.parks, .int .i64 2, .int .i64 s1.se, .int .i64 s1.it, .int .i64 s1.n, .int .i64 (s1.at_ : Int), .int .i64 s1.st, .int .i64 s1.fr, .bool s1.got] 75])) := hV
        clear z0 f0 z1 f1 z2 f2 z3 f3 z4 f4 z5 f5 z6 f6 z7 f7 z8 f8
        generalize ((((((((w8.setCell ⟨nb2, 0, none⟩ (.bool s1.parks)).setCell ⟨nb2, 1, none⟩ (.int .i64 2)).setCell ⟨nb2, 2, none⟩ (.int .i64 s1.se)).setCell ⟨nb2, 3, none⟩ (.int .i64 s1.it)).setCell ⟨nb2, 4, none⟩ (.int .i64 s1.n)).setCell ⟨nb2, 5, none⟩ (.int .i64 (s1.at_ : Int))).setCell ⟨nb2, 6, none⟩ (.int .i64 s1.st)).setCell ⟨nb2, 7, none⟩ (.int .i64 s1.fr)).setCell ⟨nb2, 8, none⟩ (.bool s1.got) = u10 at *
        refine hK'.out _ _ (KS.out _ _ _ _ hV) (fun hHeld => ?_)
        try simp only [Act.put, List.setIfInBounds_toArray, List.set_cons_zero, List.set_cons_succ]
        clear hK'
        refine lin_take (v := ?_) (by kernel_rfl) (by kernel_rfl) (fun _ _ _ h => hQ _ _ _ _ (by rfl) h) (Or.inl ⟨by rfl, ?_⟩) (by assumption) ?_; (rotate_left; (intro wS hSw; (try dsimp only at hSw); go_simp; (try with_reducible rfl)); rotate_left); simp only [Act.put, List.setIfInBounds_toArray, List.set_cons_zero, List.set_cons_succ]
      all_goals
        refine lin_done (by kernel_rfl) ?_
        go_wp2_with fail
        go_meet
        exact ⟨nb2, ao, c, rfl, rfl, Lib.hid hV⟩
    case rest =>
      obtain ⟨nb2, ao, c, rfl, rfl, h6⟩ := hcut
      clear h5 SC
      obtain ⟨-, f0⟩ := CB.ref h6.out hK3 (j := 0) (by omega)
      obtain ⟨-, f1⟩ := CB.ref h6.out hK3 (j := 1) (by omega)
      obtain ⟨-, f2⟩ := CB.ref h6.out hK3 (j := 2) (by omega)
      obtain ⟨-, f3⟩ := CB.ref h6.out hK3 (j := 3) (by omega)
      obtain ⟨-, f4⟩ := CB.ref h6.out hK3 (j := 4) (by omega)
      obtain ⟨-, f5⟩ := CB.ref h6.out hK3 (j := 5) (by omega)
      obtain ⟨-, f6⟩ := CB.ref h6.out hK3 (j := 6) (by omega)
      obtain ⟨-, f7⟩ := CB.ref h6.out hK3 (j := 7) (by omega)
      obtain ⟨-, f8⟩ := CB.ref h6.out hK3 (j := 8) (by omega)
      obtain ⟨z0, z1, z2, z3, z4, z5, z6, z7, z8⟩ := FC.out _ _ _ _ _ _ h6.out
      simp only [Nat.add_zero] at f0
      obtain ⟨q0, q1, q2, q3, q4, q5, q6, q7, q8⟩ := get9 (h6.out.pm (CB.boxUp _))
      have h7 : Own w (((((((((wc.setCell ⟨fb, K * 9, none⟩ (.bool s1.parks)).setCell ⟨fb, K * 9 + 1, none⟩ (.int .i64 2)).setCell ⟨fb, K * 9 + 2, none⟩ (.int .i64 s1.se)).setCell ⟨fb, K * 9 + 3, none⟩ (.int .i64 s1.it)).setCell ⟨fb, K * 9 + 4, none⟩ (.int .i64 s1.n)).setCell ⟨fb, K * 9 + 5, none⟩ (.int .i64 (s1.at_ : Int))).setCell ⟨fb, K * 9 + 6, none⟩ (.int .i64 s1.st)).setCell ⟨fb, K * 9 + 7, none⟩ (.int .i64 s1.fr)).setCell ⟨fb, K * 9 + 8, none⟩ (.bool s1.got)) (storeA g sb m :: (objC nb s) :: CB pb qb rb kb fb Rv Pv (setR F K (refFC s1)) (.slice ao 61 c) m1 (ex ++ [cellsA nb2 #[.bool s1.parks, .int .i64 2, .int .i64 s1.se, .int .i64 s1.it, .int .i64 s1.n, .int .i64 (s1.at_ : Int), .int .i64 s1.st, .int .i64 s1.fr, .bool s1.got] 75])) := CB.set9 h6.out hK3 (refFC s1) (.bool s1.parks) (.int .i64 2) (.int .i64 s1.se) (.int .i64 s1.it) (.int .i64 s1.n) (.int .i64 (s1.at_ : Int)) (.int .i64 s1.st) (.int .i64 s1.fr) (.bool s1.got) rfl rfl rfl rfl rfl rfl rfl rfl rfl
      replace h7 := Lib.hid h7
      go_upto_region 44 with fail
      clear h6 z0 f0 q0 z1 f1 q1 z2 f2 q2 z3 f3 q3 z4 f4 q4 z5 f5 q5 z6 f6 q6 z7 f7 q7 z8 f8 q8
      generalize ((((((((wc.setCell ⟨fb, K * 9, none⟩ (.bool s1.parks)).setCell ⟨fb, K * 9 + 1, none⟩ (.int .i64 2)).setCell ⟨fb, K * 9 + 2, none⟩ (.int .i64 s1.se)).setCell ⟨fb, K * 9 + 3, none⟩ (.int .i64 s1.it)).setCell ⟨fb, K * 9 + 4, none⟩ (.int .i64 s1.n)).setCell ⟨fb, K * 9 + 5, none⟩ (.int .i64 (s1.at_ : Int))).setCell ⟨fb, K * 9 + 6, none⟩ (.int .i64 s1.st)).setCell ⟨fb, K * 9 + 7, none⟩ (.int .i64 s1.fr)).setCell ⟨fb, K * 9 + 8, none⟩ (.bool s1.got) = u11 at *
      have r0 := (CB.rt h7.out hK3).1
      rw [PV.out] at r0
      have r1 := (CB.pk h7.out hK3).1
      rw [QV.out] at r1
      go_upto_region 45 with fail
      clear r0 r1
      have KT := Lib.hid (fun (w' : World) (m3 : List Int) (A : Ast) (h : Own w w' (storeA g sb m3 :: A :: CB pb qb rb kb fb Rv Pv (setR F K (refFC s1)) (.slice ao 61 c) m1 (ex ++ [cellsA nb2 #[.bool s1.parks, .int .i64 2, .int .i64 s1.se, .int .i64 s1.it, .int .i64 s1.n, .int .i64 (s1.at_ : Int), .int .i64 s1.st, .int .i64 s1.fr, .bool s1.got] 75]))) => show (fun w' : World => w'.cell? ⟨kb, K, none⟩ = some (.pointer (some ⟨nb, 0, none⟩)) ∧ w'.cell? ⟨nb2, 5, none⟩ = some (.int .i64 (s1.at_ : Int)) ∧ w'.cell? ⟨nb2, 8, none⟩ = some (.bool s1.got)) w' from ⟨(CB.pk h hK3).1.trans (congrArg some QV.out), (get9 (h.pm (CB.boxUp _))).2.2.2.2.2.1, (get9 (h.pm (CB.boxUp _))).2.2.2.2.2.2.2.2⟩)
      have BK := Lib.hid (fun (w' : World) (h : Own w w' (storeA g sb m1 :: (objC nb s1) :: CB pb qb rb kb fb Rv Pv (setR F K (refFC s1)) (.slice ao 61 c) m1 (ex ++ [cellsA nb2 #[.bool s1.parks, .int .i64 2, .int .i64 s1.se, .int .i64 s1.it, .int .i64 s1.n, .int .i64 (s1.at_ : Int), .int .i64 s1.st, .int .i64 s1.fr, .bool s1.got] 75]))) => show Calls Try.prog 47 #[.pointer (some ⟨nb, 0, none⟩)] w' fun e w'' => e = .returned (.bool s1.got) ∧ w' = w'' from by
        have hob : (storeA g sb m1 :: objC nb s1 :: CB pb qb rb kb fb Rv Pv (setR F K (refFC s1)) (.slice ao 61 c) m1 (ex ++ [cellsA nb2 #[.bool s1.parks, .int .i64 2, .int .i64 s1.se, .int .i64 s1.it, .int .i64 s1.n, .int .i64 (s1.at_ : Int), .int .i64 s1.st, .int .i64 s1.fr, .bool s1.got] 75]))[1]? = some (cellsA nb (parkC s1) 109) := by
          show some (objC nb s1) = _
          unfold objC
          rw [if_pos (by rw [hpk2.out, hp.out])]
        exact park_back 1 h hob)
      have h8 := h7.out.drewN 1
      have hS45 := KT.out _ _ _ h8
      generalize decide (s1.at_ = 3) = E at *
      have hEE : (E != E) = false := by cases E <;> rfl
      have hEx : (E ^^ E) = false := by cases E <;> rfl
      have hGG : (s1.got != s1.got) = false := by cases s1.got <;> rfl
      have hGx : (s1.got ^^ s1.got) = false := by cases s1.got <;> rfl
      refine lin_start (S := (fun w' : World => w'.cell? ⟨kb, K, none⟩ = some (.pointer (some ⟨nb, 0, none⟩)) ∧ w'.cell? ⟨nb2, 5, none⟩ = some (.int .i64 (s1.at_ : Int)) ∧ w'.cell? ⟨nb2, 8, none⟩ = some (.bool s1.got))) rfl 20 rfl hS45 ?_
      simp only [numbered, Nat.zero_add, Nat.reduceAdd]
      refine lin_take (v := ?_) (by kernel_rfl) (by kernel_rfl) (fun _ _ _ h => hQ _ _ _ _ (by rfl) h) (Or.inl ⟨by rfl, ?_⟩) (by assumption) ?_; (rotate_left; (intro wS hSw; (try dsimp only at hSw); go_simp; (try with_reducible rfl)); rotate_left); simp only [Act.put, List.setIfInBounds_toArray, List.set_cons_zero, List.set_cons_succ]
      refine lin_take (v := ?_) (by kernel_rfl) (by kernel_rfl) (fun _ _ _ h => hQ _ _ _ _ (by rfl) h) (Or.inl ⟨by rfl, ?_⟩) (by assumption) ?_; (rotate_left; (intro wS hSw; (try dsimp only at hSw); go_simp; (try with_reducible rfl)); rotate_left); simp only [Act.put, List.setIfInBounds_toArray, List.set_cons_zero, List.set_cons_succ]
      refine lin_take (v := ?_) (by kernel_rfl) (by kernel_rfl) (fun _ _ _ h => hQ _ _ _ _ (by rfl) h) (Or.inl ⟨by rfl, ?_⟩) (by assumption) ?_; (rotate_left; (intro wS hSw; (try dsimp only at hSw); go_simp; (try with_reducible rfl)); rotate_left); simp only [Act.put, List.setIfInBounds_toArray, List.set_cons_zero, List.set_cons_succ]
      refine lin_take (v := ?_) (by kernel_rfl) (by kernel_rfl) (fun _ _ _ h => hQ _ _ _ _ (by rfl) h) (Or.inl ⟨by rfl, ?_⟩) (by assumption) ?_; (rotate_left; (intro wS hSw; (try dsimp only at hSw); go_simp; (try with_reducible rfl)); rotate_left); simp only [Act.put, List.setIfInBounds_toArray, List.set_cons_zero, List.set_cons_succ]
      refine lin_take (v := ?_) (by kernel_rfl) (by kernel_rfl) (fun _ _ _ h => hQ _ _ _ _ (by rfl) h) (Or.inl ⟨by rfl, ?_⟩) (by assumption) ?_; (rotate_left; (intro wS hSw; (try dsimp only at hSw); go_simp; (try with_reducible rfl)); rotate_left); simp only [Act.put, List.setIfInBounds_toArray, List.set_cons_zero, List.set_cons_succ]
      refine lin_rot ?_; simp only [List.cons_append, List.nil_append]
      refine lin_take (v := ?_) (by kernel_rfl) (by kernel_rfl) (fun _ _ _ h => hQ _ _ _ _ (by rfl) h) (Or.inl ⟨by rfl, ?_⟩) (by assumption) ?_; (rotate_left; (intro wS hSw; (try dsimp only at hSw); go_simp; (try with_reducible rfl)); rotate_left); simp only [Act.put, List.setIfInBounds_toArray, List.set_cons_zero, List.set_cons_succ]
      refine lin_take (v := ?_) (by kernel_rfl) (by kernel_rfl) (fun _ _ _ h => hQ _ _ _ _ (by rfl) h) (Or.inl ⟨by rfl, ?_⟩) (by assumption) ?_; (rotate_left; (intro wS hSw; (try dsimp only at hSw); go_simp; (try with_reducible rfl)); rotate_left); simp only [Act.put, List.setIfInBounds_toArray, List.set_cons_zero, List.set_cons_succ]
      refine lin_take (v := ?_) (by kernel_rfl) (by kernel_rfl) (fun _ _ _ h => hQ _ _ _ _ (by rfl) h) (Or.inl ⟨by rfl, ?_⟩) (by assumption) ?_; (rotate_left; (intro wS hSw; (try dsimp only at hSw); go_simp; (try with_reducible rfl)); rotate_left); simp only [Act.put, List.setIfInBounds_toArray, List.set_cons_zero, List.set_cons_succ]
      refine lin_rot ?_; simp only [List.cons_append, List.nil_append]
      refine lin_rot ?_; simp only [List.cons_append, List.nil_append]
      refine lin_rot ?_; simp only [List.cons_append, List.nil_append]
      refine lin_rot ?_; simp only [List.cons_append, List.nil_append]
      refine lin_rot ?_; simp only [List.cons_append, List.nil_append]
      refine lin_rot ?_; simp only [List.cons_append, List.nil_append]
      refine lin_rot ?_; simp only [List.cons_append, List.nil_append]
      refine lin_rot ?_; simp only [List.cons_append, List.nil_append]
      refine lin_rot ?_; simp only [List.cons_append, List.nil_append]
      refine lin_rot ?_; simp only [List.cons_append, List.nil_append]
      refine lin_rot ?_; simp only [List.cons_append, List.nil_append]
      refine lin_sole (by kernel_rfl) (fun K' hK' => ?_)
      go_simp
      refine (PS.out _ _ h8).mono ?_
      rintro e w12 ⟨rfl, h9⟩
      replace h9 : Own w w12 (storeA g sb m1 :: (objC nb s1) :: CB pb qb rb kb fb Rv Pv (setR F K (refFC s1)) (.slice ao 61 c) m1 (ex ++ [cellsA nb2 #[.bool s1.parks, .int .i64 2, .int .i64 s1.se, .int .i64 s1.it, .int .i64 s1.n, .int .i64 (s1.at_ : Int), .int .i64 s1.st, .int .i64 s1.fr, .bool s1.got] 75])) := h9
      have hS46 := KT.out _ _ _ h9
      refine hK'.out _ _ hS46 (fun hHeld => ?_)
      try simp only [Act.put, List.setIfInBounds_toArray, List.set_cons_zero, List.set_cons_succ]
      clear hK'
      refine lin_take (v := ?_) (by kernel_rfl) (by kernel_rfl) (fun _ _ _ h => hQ _ _ _ _ (by rfl) h) (Or.inl ⟨by rfl, ?_⟩) (by assumption) ?_; (rotate_left; (intro wS hSw; (try dsimp only at hSw); go_simp; (try with_reducible rfl)); rotate_left); simp only [Act.put, List.setIfInBounds_toArray, List.set_cons_zero, List.set_cons_succ]
      refine lin_take (v := ?_) (by kernel_rfl) (by kernel_rfl) (fun _ _ _ h => hQ _ _ _ _ (by rfl) h) (Or.inl ⟨by rfl, ?_⟩) (by assumption) ?_; (rotate_left; (intro wS hSw; (try dsimp only at hSw); go_simp; (try with_reducible rfl)); rotate_left); simp only [Act.put, List.setIfInBounds_toArray, List.set_cons_zero, List.set_cons_succ]
      refine lin_take (v := ?_) (by kernel_rfl) (by kernel_rfl) (fun _ _ _ h => hQ _ _ _ _ (by rfl) h) (Or.inl ⟨by rfl, ?_⟩) (by assumption) ?_; (rotate_left; (intro wS hSw; (try dsimp only at hSw); go_simp; (try with_reducible rfl)); rotate_left); simp only [Act.put, List.setIfInBounds_toArray, List.set_cons_zero, List.set_cons_succ]
      refine lin_take (v := ?_) (by kernel_rfl) (by kernel_rfl) (fun _ _ _ h => hQ _ _ _ _ (by rfl) h) (Or.inl ⟨by rfl, ?_⟩) (by assumption) ?_; (rotate_left; (intro wS hSw; (try dsimp only at hSw); go_simp; (try with_reducible rfl)); rotate_left); simp only [Act.put, List.setIfInBounds_toArray, List.set_cons_zero, List.set_cons_succ]
      refine lin_take (v := ?_) (by kernel_rfl) (by kernel_rfl) (fun _ _ _ h => hQ _ _ _ _ (by rfl) h) (Or.inl ⟨by rfl, ?_⟩) (by assumption) ?_; (rotate_left; (intro wS hSw; (try dsimp only at hSw); go_simp; (try with_reducible rfl)); rotate_left); simp only [Act.put, List.setIfInBounds_toArray, List.set_cons_zero, List.set_cons_succ]
      refine lin_take (v := ?_) (by kernel_rfl) (by kernel_rfl) (fun _ _ _ h => hQ _ _ _ _ (by rfl) h) (Or.inl ⟨by rfl, ?_⟩) (by assumption) ?_; (rotate_left; (intro wS hSw; (try dsimp only at hSw); go_simp; (try with_reducible rfl)); rotate_left); simp only [Act.put, List.setIfInBounds_toArray, List.set_cons_zero, List.set_cons_succ]
      refine lin_rot ?_; simp only [List.cons_append, List.nil_append]
      refine lin_take (v := ?_) (by kernel_rfl) (by kernel_rfl) (fun _ _ _ h => hQ _ _ _ _ (by rfl) h) (Or.inl ⟨by rfl, ?_⟩) (by assumption) ?_; (rotate_left; (intro wS hSw; (try dsimp only at hSw); go_simp; (try with_reducible rfl)); rotate_left); simp only [Act.put, List.setIfInBounds_toArray, List.set_cons_zero, List.set_cons_succ]
      refine lin_take (v := ?_) (by kernel_rfl) (by kernel_rfl) (fun _ _ _ h => hQ _ _ _ _ (by rfl) h) (Or.inl ⟨by rfl, ?_⟩) (by assumption) ?_; (rotate_left; (intro wS hSw; (try dsimp only at hSw); go_simp; (try with_reducible rfl)); rotate_left); simp only [Act.put, List.setIfInBounds_toArray, List.set_cons_zero, List.set_cons_succ]
      refine lin_rot ?_; simp only [List.cons_append, List.nil_append]
      refine lin_rot ?_; simp only [List.cons_append, List.nil_append]
      refine lin_sole (by kernel_rfl) (fun K' hK' => ?_)
      go_simp
      refine (BK.out _ h9).mono ?_
      rintro e w13 ⟨rfl, rfl⟩
      refine hK'.out _ _ hS46 (fun hHeld => ?_)
      try simp only [Act.put, List.setIfInBounds_toArray, List.set_cons_zero, List.set_cons_succ]
      clear hK'
      refine lin_take (v := ?_) (by kernel_rfl) (by kernel_rfl) (fun _ _ _ h => hQ _ _ _ _ (by rfl) h) (Or.inl ⟨by rfl, ?_⟩) (by assumption) ?_; (rotate_left; (intro wS hSw; (try dsimp only at hSw); go_simp; (try with_reducible rfl)); rotate_left); simp only [Act.put, List.setIfInBounds_toArray, List.set_cons_zero, List.set_cons_succ]
      refine lin_take (v := ?_) (by kernel_rfl) (by kernel_rfl) (fun _ _ _ h => hQ _ _ _ _ (by rfl) h) (Or.inl ⟨by rfl, ?_⟩) (by assumption) ?_; (rotate_left; (intro wS hSw; (try dsimp only at hSw); go_simp; (try with_reducible rfl)); rotate_left); simp only [Act.put, List.setIfInBounds_toArray, List.set_cons_zero, List.set_cons_succ]
      refine lin_done (by kernel_rfl) ?_
      clear hHeld hS45 hS46 h8
      have hfin := Lib.hid (show SwOut w _ g sb pb qb rb kb fb K Rv Pv F ex (.slice ao 61 c) from ⟨ao, c, m1, Rv, Pv, (setR F K (refFC s1)), _, rfl, hlen2.out, (fun _ _ => rfl), (fun _ _ => rfl), setR_ne, (.inr ⟨s1, nb, hok2.out, rfl, fun j _ => by rw [setR_eq], .inr ⟨hpk2.out.trans hp.out, PV.out, QV.out⟩⟩), CB.unbox h9⟩)
      clear h9
      go_wp2_with fail
      refine hK.out _ _ _ _ _ _ _ _ _ _ _ _ _ _ _ _ _ _ _ _ _ _ _ _ _ _ _ _ _ _ _ _ _ _ _ _ _ _ _ _ _ _ _ _ _ _ _ _ _ _ _ _ _ _ _ _ _ _ _ _ _ _ _ _ _ _ _ _ _ _ _ _ _ _ _ _ _ _ _ _ _ _ _ _ _ _ _ _ _ _ _ _ _ _ _ _ _ _ _ _ _ _ _ _ _ _ _ _ _ _ _ _ _ _ _ _ _ _ _ _ _ _ _ _ _ _ _ _ _ _ _ _ _ _ _ _ _ _ _ _ _ _ _ _ _ _ _ _ _ _ _ _ _ _ _ _ _ _ _ _ _ _ _ _ _ _ _ _ _ _ _ _ _ _ _ _ _ _ _ _ _ _ _ _ _ _ _ _ _ _ _ _ _ _ _ _ _ _ _ ?_
      exact hfin.out
end Go.Proofs.Ytooofpplhedgcaa
