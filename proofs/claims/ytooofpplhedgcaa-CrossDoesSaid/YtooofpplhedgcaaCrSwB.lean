/- CrossDoes: the switch, a case of it. -/
import Derived.Test.YtooofpplhedgcaaCrSw
import Derived.Deep.Cut
import Derived.Deep.CutRange
import Derived.Deep.CutBlock
set_option linter.unusedVariables false
set_option linter.unusedSimpArgs false
namespace Go.Proofs.Ytooofpplhedgcaa
open Go.RowKit
set_option maxRecDepth 1000000
set_option maxHeartbeats 8000000
theorem sw5 (u0 u1 u2 u10 u14 u15 u16 u17 u18 u19 u20 u21 u22 u23 u24 u25 u26 u27 u28 u29 u30 u31 u32 u33 u34 u35 u36 u37 u38 u39 u40 u41 u42 u43 u44 u45 u46 u47 u48 u49 u50 u51 u52 u53 u54 u55 u56 u57 u58 u59 u60 u61 u62 u63 u64 u65 u66 u67 u68 u69 u70 u71 u72 u73 u74 u75 u76 u77 u78 u79 u80 u81 u82 u83 u84 u85 u86 u87 u88 u89 u90 u91 u92 u93 u94 u95 u96 u97 u98 u99 u100 u101 u102 u103 u104 u105 u106 u107 u108 u109 u110 u111 u112 u113 u114 u115 u116 u117 u118 u119 u120 u121 u122 u123 u124 u125 u126 u127 u128 u129 u130 u131 u132 u133 u134 u135 u136 u137 u138 u139 u140 u141 u142 u143 u144 u145 u146 u147 u148 u149 u150 u151 u152 u153 u154 u155 u156 u157 u158 u159 u160 u161 u162 u163 u164 u165 u166 u167 u168 u169 u170 u171 u172 u173 u174 u175 u176 u177 u178 u179 u180 u181 u182 u183 u184 u185 u186 u187 u188 u189 u190 u191 u192 u193 u194 u195 u196 u197 u198 u199 u200 u201 u202 u203 u204 u205 u206 u207 u208 u209 u210 u211 u212 u213 u214 u215 u216 u217 u218 u219 u220 u221 u222 u223 u224 u225 u226 u227 u228 u229 u230 u231 u232 u233 u234 u235 u236 u237 u238 u239 u240 u241 u242 u243 u244 u245 u246 u247 u248 u249 u250 u251 u252 u253 u254 u255 u256 u257 u258 u259 u260 u261 u262 u263 u264 u265 u266 u267 u268 u269 u270 u271 u272 u273 u274 u275 u276 u277 u278 u279 u280 u281 u282 u283 u284 u285 u286 u287 u288 u289 u290 u291 u292 : Value) {w u : World} {g sb pb qb rb kb fb ob xb K mc : Nat} {mo : Option Addr} {m : List Int} {Rv Pv : Nat → Value} {As : Nat → Ast} {F : Nat → Nat → Value} {ex : List Ast} {who se it n : Int} {Kont : Act → World → Prop} {Q : Exit → Act → World → Prop}
    (hQ : ∀ (ch : List PanicEntry) (a a' : Act) (w : World), a.defers = a'.defers → Q (Exit.panic ch) a w → Q (Exit.panic ch) a' w) (hOB : (cellsA ob #[.int .i64 5, .int .i64 who, .int .i64 se, .int .i64 it, .int .i64 n] 72) ∈ ex) (hXB : (cellsA xb #[.int .i64 1, .int .i64 3, .int .i64 3, .int .i64 3, .int .i64 2, .int .i64 se] 32) ∈ ex) (hml : m.length = 61) (hK3 : K < 3) (hrg : -1099511627776 ≤ it ∧ it ≤ 1099511627776) (h4 : Own w u (storeA g sb m :: (As K) :: CB pb qb rb kb fb Rv Pv F (.slice mo 61 mc) m ex)) (hcw : CWD (Rv K) (Pv K) (As K) (F K))
    (hK : ∀ (x14 x15 x16 x17 x18 x19 x20 x21 x22 x23 x24 x25 x81 x82 x83 x84 x85 x86 x87 x88 x89 x90 x91 x92 x93 x94 x95 x96 x97 x98 x99 x100 x101 x102 x103 x104 x105 x106 x107 x108 x109 x110 x111 x112 x113 x114 x115 x116 x117 x118 x119 x120 x121 x122 x123 x124 x125 x126 x127 x128 x129 x130 x131 x132 x133 x134 x135 x136 x137 x138 x139 x140 x141 x142 x143 x144 x145 x146 x147 x148 x149 x150 x151 x152 x153 x154 x155 x156 x157 x158 x159 x160 x161 x162 x163 x164 x165 x166 x167 x168 x169 x170 x171 x172 x173 x174 x175 x176 x177 x178 x179 x180 x181 x182 x183 x184 x185 x186 x187 x188 x189 x190 x191 x192 x193 x194 x195 x196 x197 x198 x199 x200 x201 x202 x203 x204 x205 x206 x207 x208 x209 x210 x211 x212 x213 x214 x215 x216 x217 x218 x219 x220 x221 x222 x223 x224 x225 x226 x227 x228 x229 x230 x231 x232 x233 x234 x235 x236 x237 x238 x239 x240 x241 x242 x243 x244 x245 x246 x247 x248 x249 x250 x251 x252 x253 x254 x255 x256 x257 x258 x259 x260 x261 x262 x263 x264 x265 mv : Value) (w' : World), SwOut w w' g sb pb qb rb kb fb K Rv Pv F ex mv → Kont ⟨#[u0, u1, u2, (.pointer (some ⟨pb, 0, none⟩)), (.pointer (some ⟨qb, 0, none⟩)), (.pointer (some ⟨g, 0, none⟩)), mv, (.slice (some ⟨rb, 0, none⟩) 3 3), (.slice (some ⟨kb, 0, none⟩) 3 3), (.slice (some ⟨fb, 0, none⟩) 3 3), u10, (.pointer (some ⟨ob, 0, none⟩)), (.int .i64 (K : Int)), (.pointer (some ⟨xb, 0, none⟩)), x14, x15, x16, x17, x18, x19, x20, x21, x22, x23, x24, x25, u26, u27, u28, u29, u30, u31, u32, u33, u34, u35, u36, u37, u38, u39, u40, u41, u42, u43, u44, u45, u46, u47, u48, u49, u50, u51, u52, u53, u54, u55, u56, u57, u58, u59, u60, u61, u62, u63, u64, u65, u66, u67, u68, u69, u70, u71, u72, u73, u74, u75, u76, u77, u78, u79, u80, x81, x82, x83, x84, x85, x86, x87, x88, x89, x90, x91, x92, x93, x94, x95, x96, x97, x98, x99, x100, x101, x102, x103, x104, x105, x106, x107, x108, x109, x110, x111, x112, x113, x114, x115, x116, x117, x118, x119, x120, x121, x122, x123, x124, x125, x126, x127, x128, x129, x130, x131, x132, x133, x134, x135, x136, x137, x138, x139, x140, x141, x142, x143, x144, x145, x146, x147, x148, x149, x150, x151, x152, x153, x154, x155, x156, x157, x158, x159, x160, x161, x162, x163, x164, x165, x166, x167, x168, x169, x170, x171, x172, x173, x174, x175, x176, x177, x178, x179, x180, x181, x182, x183, x184, x185, x186, x187, x188, x189, x190, x191, x192, x193, x194, x195, x196, x197, x198, x199, x200, x201, x202, x203, x204, x205, x206, x207, x208, x209, x210, x211, x212, x213, x214, x215, x216, x217, x218, x219, x220, x221, x222, x223, x224, x225, x226, x227, x228, x229, x230, x231, x232, x233, x234, x235, x236, x237, x238, x239, x240, x241, x242, x243, x244, x245, x246, x247, x248, x249, x250, x251, x252, x253, x254, x255, x256, x257, x258, x259, x260, x261, x262, x263, x264, x265, u266, u267, u268, u269, u270, u271, u272, u273, u274, u275, u276, u277, u278, u279, u280, u281, u282, u283, u284, u285, u286, u287, u288, u289, u290, u291, u292], []⟩ w') :
    Code.wp Try.prog SW19 (Exit.then Kont Q) ⟨#[u0, u1, u2, (.pointer (some ⟨pb, 0, none⟩)), (.pointer (some ⟨qb, 0, none⟩)), (.pointer (some ⟨g, 0, none⟩)), (.slice mo 61 mc), (.slice (some ⟨rb, 0, none⟩) 3 3), (.slice (some ⟨kb, 0, none⟩) 3 3), (.slice (some ⟨fb, 0, none⟩) 3 3), u10, (.pointer (some ⟨ob, 0, none⟩)), (.int .i64 (K : Int)), (.pointer (some ⟨xb, 0, none⟩)), u14, u15, u16, u17, u18, u19, u20, u21, u22, u23, u24, u25, u26, u27, u28, u29, u30, u31, u32, u33, u34, u35, u36, u37, u38, u39, u40, u41, u42, u43, u44, u45, u46, u47, u48, u49, u50, u51, u52, u53, u54, u55, u56, u57, u58, u59, u60, u61, u62, u63, u64, u65, u66, u67, u68, u69, u70, u71, u72, u73, u74, u75, u76, u77, u78, u79, u80, u81, u82, u83, u84, u85, u86, u87, u88, u89, u90, u91, u92, u93, u94, u95, u96, u97, u98, u99, u100, u101, u102, u103, u104, u105, u106, u107, u108, u109, u110, u111, u112, u113, u114, u115, u116, u117, u118, u119, u120, u121, u122, u123, u124, u125, u126, u127, u128, u129, u130, u131, u132, u133, u134, u135, u136, u137, u138, u139, u140, u141, u142, u143, u144, u145, u146, u147, u148, u149, u150, u151, u152, u153, u154, u155, u156, u157, u158, u159, u160, u161, u162, u163, u164, u165, u166, u167, u168, u169, u170, u171, u172, u173, u174, u175, u176, u177, u178, u179, u180, u181, u182, u183, u184, u185, u186, u187, u188, u189, u190, u191, u192, u193, u194, u195, u196, u197, u198, u199, u200, u201, u202, u203, u204, u205, u206, u207, u208, u209, u210, u211, u212, u213, u214, u215, u216, u217, u218, u219, u220, u221, u222, u223, u224, u225, u226, u227, u228, u229, u230, u231, u232, u233, u234, u235, u236, u237, u238, u239, u240, u241, u242, u243, u244, u245, u246, u247, u248, u249, u250, u251, u252, u253, u254, u255, u256, u257, u258, u259, u260, u261, u262, u263, u264, u265, u266, u267, u268, u269, u270, u271, u272, u273, u274, u275, u276, u277, u278, u279, u280, u281, u282, u283, u284, u285, u286, u287, u288, u289, u290, u291, u292], []⟩ u := by
  have hK3i : (K : Int) < 3 := by omega
  have iK : IntKind.i64.wrap (K : Int) = (K : Int) := IntWalk.i64_in _ (by omega)
  have OC := Lib.hid (fun (w1 : World) (m1 m2 : List Int) (A : Ast) (Rv1 Pv1 : Nat → Value) (F1 : Nat → Nat → Value) (mv : Value) (l : List Ast) (h : Own w w1 (storeA g sb m1 :: A :: CB pb qb rb kb fb Rv1 Pv1 F1 mv m2 (ex ++ l))) => oc19 hOB hXB w1 m1 m2 A Rv1 Pv1 F1 mv l h)
  replace hml := Lib.hid hml
  replace hK := Lib.hid hK
  replace h4 := Lib.hid h4
  clear hOB hXB
  unfold SW19
  conv => arg 2; whnf
  have hix := ixC_lt it (k := 0) (by omega)
  have WD := Lib.hid (fun w1 => rcword 1 it n 0 (by unfold kindK; omega) (by omega) w1)
  have DD := Lib.hid (fun (x : Int) (w1 : World) => rcDo1 it n se x w1)
  generalize ixC it 0 = ix at *



  have hrow := h4.out.row 6 rfl
  obtain ⟨g3, o3, cap3, hv3, -, -, -, -⟩ := hrow.addr (show 0 < m.length by rw [hml.out]; omega)
  rw [hml.out] at hv3
  simp only [Value.slice.injEq] at hv3
  obtain ⟨rfl, -, rfl⟩ := hv3
  clear hrow
  obtain ⟨⟨o0, o2, o3_, o4⟩, -⟩ := OC.out _ _ _ _ _ _ _ _ [] (by simpa using h4.out)
  have h5 := h4.out.alloc (.cells #[.int .i64 1, .int .i64 6, .int .i64 3] 3)
  have oA := (OC.out _ _ _ _ _ _ _ _ [] (by simpa using h5)).1.1
  replace h5 := Lib.hid h5
  go_upto_region 28 with fail
  replace h5 := h5.out
  clear h4 o0 o2 o3_ o4 oA
  generalize u.alloc (.cells #[.int .i64 1, .int .i64 6, .int .i64 3] 3) = u2 at *
  obtain ⟨⟨o0, o2, o3_, o4⟩, -⟩ := OC.out _ _ _ _ _ _ _ _ [] (by simpa using h5)
  have h6 := CB.box h5 #[.int .i64 1, .int .i64 it, .int .i64 n] 79
  go_upto_region 29 with fail
  clear h5 o0 o2 o3_ o4
  generalize u2.alloc (.cells #[.int .i64 1, .int .i64 it, .int .i64 n] 79) = u3 at *
  generalize u2.heap.size = sb2 at *
  replace h6 : Own w u3 (storeA g sb m :: (As K) :: CB pb qb rb kb fb Rv Pv F (.slice (some ⟨g3, o3, none⟩) 61 mc) m (ex ++ [cellsA sb2 #[.int .i64 1, .int .i64 it, .int .i64 n] 79])) := h6
  obtain ⟨X, hX⟩ : ∃ X, m.getD ix 0 = X := ⟨_, rfl⟩
  have KS := Lib.hid (fun (w' : World) (h : Own w w' (storeA g sb m :: (As K) :: CB pb qb rb kb fb Rv Pv F (.slice (some ⟨g3, o3, none⟩) 61 mc) m (ex ++ [cellsA sb2 #[.int .i64 1, .int .i64 it, .int .i64 n] 79]))) => show (fun w' : World => w'.cell? ⟨g3, o3 + ix, none⟩ = some (.int .i64 X) ∧ w'.cell? ⟨ob, 2, none⟩ = some (.int .i64 se) ∧ w'.cell? ⟨sb2, 0, none⟩ = some (.int .i64 1) ∧ w'.cell? ⟨sb2, 1, none⟩ = some (.int .i64 it) ∧ w'.cell? ⟨sb2, 2, none⟩ = some (.int .i64 n)) w' from ⟨h.row_at 6 (e := 3) (size := 1) (n := 61) (xs := m.map (.int .i64)) (by show some (mRow _ _) = _; unfold mRow; rw [hml.out]) (by rw [getD_map (by rw [hml.out]; omega), hX]), (OC.out _ _ _ _ _ _ _ _ _ h).1.2.1, CB.get h (nb := sb2) (cs := #[.int .i64 1, .int .i64 it, .int .i64 n]) (t := 79) (by simp) 0, CB.get h (nb := sb2) (cs := #[.int .i64 1, .int .i64 it, .int .i64 n]) (t := 79) (by simp) 1, CB.get h (nb := sb2) (cs := #[.int .i64 1, .int .i64 it, .int .i64 n]) (t := 79) (by simp) 2⟩)
  obtain ⟨-, ⟨p0, p1, p2, p3⟩⟩ := CB.plan h6
  obtain ⟨y1, y2, y3, y4, y5⟩ := KS.out _ h6
  go_upto_region 30 with (go_at_call 40; refine (WD.out _).mono ?_; rintro e w5 ⟨rfl, hb5⟩)
  have h7 := h6.grow hb5
  clear h6 hb5 p0 p1 p2 p3 y1 y2 y3 y4 y5
  have h8 := h7.drewN 1
  have hS3 := KS.out _ h8
  have z1 : (ix : Int) < 61 := by omega
  have z2 : (0 : Int) ≤ (ix : Int) := by omega
  have z3 : IntKind.i64.wrap (ix : Int) = (ix : Int) := IntWalk.i64_in _ (by omega)
  refine lin_start (S := (fun w' : World => w'.cell? ⟨g3, o3 + ix, none⟩ = some (.int .i64 X) ∧ w'.cell? ⟨ob, 2, none⟩ = some (.int .i64 se) ∧ w'.cell? ⟨sb2, 0, none⟩ = some (.int .i64 1) ∧ w'.cell? ⟨sb2, 1, none⟩ = some (.int .i64 it) ∧ w'.cell? ⟨sb2, 2, none⟩ = some (.int .i64 n))) rfl 13 rfl hS3 ?_
  simp only [numbered, Nat.zero_add, Nat.reduceAdd]
  refine lin_take (v := ?_) (by kernel_rfl) (by kernel_rfl) (fun _ _ _ h => hQ _ _ _ _ (by rfl) h) (Or.inl ⟨by rfl, ?_⟩) (by assumption) ?_; (rotate_left; (intro wS hSw; (try dsimp only at hSw); (try go_simp); (try with_reducible rfl)); rotate_left); simp only [Act.put, List.setIfInBounds_toArray, List.set_cons_zero, List.set_cons_succ]
  refine lin_take (v := ?_) (by kernel_rfl) (by kernel_rfl) (fun _ _ _ h => hQ _ _ _ _ (by rfl) h) (Or.inl ⟨by rfl, ?_⟩) (by assumption) ?_; (rotate_left; (intro wS hSw; (try dsimp only at hSw); (try go_simp); (try with_reducible rfl)); rotate_left); simp only [Act.put, List.setIfInBounds_toArray, List.set_cons_zero, List.set_cons_succ]
  refine lin_take (v := ?_) (by kernel_rfl) (by kernel_rfl) (fun _ _ _ h => hQ _ _ _ _ (by rfl) h) (Or.inl ⟨by rfl, ?_⟩) (by assumption) ?_; (rotate_left; (intro wS hSw; (try dsimp only at hSw); (try go_simp); (try with_reducible rfl)); rotate_left); simp only [Act.put, List.setIfInBounds_toArray, List.set_cons_zero, List.set_cons_succ]
  refine lin_take (v := ?_) (by kernel_rfl) (by kernel_rfl) (fun _ _ _ h => hQ _ _ _ _ (by rfl) h) (Or.inl ⟨by rfl, ?_⟩) (by assumption) ?_; (rotate_left; (intro wS hSw; (try dsimp only at hSw); (try go_simp); (try with_reducible rfl)); rotate_left); simp only [Act.put, List.setIfInBounds_toArray, List.set_cons_zero, List.set_cons_succ]
  refine lin_take (v := ?_) (by kernel_rfl) (by kernel_rfl) (fun _ _ _ h => hQ _ _ _ _ (by rfl) h) (Or.inl ⟨by rfl, ?_⟩) (by assumption) ?_; (rotate_left; (intro wS hSw; (try dsimp only at hSw); (try go_simp); (try with_reducible rfl)); rotate_left); simp only [Act.put, List.setIfInBounds_toArray, List.set_cons_zero, List.set_cons_succ]
  refine lin_take (v := ?_) (by kernel_rfl) (by kernel_rfl) (fun _ _ _ h => hQ _ _ _ _ (by rfl) h) (Or.inl ⟨by rfl, ?_⟩) (by assumption) ?_; (rotate_left; (intro wS hSw; (try dsimp only at hSw); (try go_simp); (try with_reducible rfl)); rotate_left); simp only [Act.put, List.setIfInBounds_toArray, List.set_cons_zero, List.set_cons_succ]
  refine lin_take (v := ?_) (by kernel_rfl) (by kernel_rfl) (fun _ _ _ h => hQ _ _ _ _ (by rfl) h) (Or.inl ⟨by rfl, ?_⟩) (by assumption) ?_; (rotate_left; (intro wS hSw; (try dsimp only at hSw); (try go_simp); (try with_reducible rfl)); rotate_left); simp only [Act.put, List.setIfInBounds_toArray, List.set_cons_zero, List.set_cons_succ]
  refine lin_sole (by kernel_rfl) (fun K' hK' => ?_)
  go_simp
  refine (DD.out X _).mono ?_
  rintro e w6 ⟨rfl, hb6⟩
  have h9 := h8.grow hb6
  clear hb6
  have hS4 := KS.out _ h9
  refine hK'.out _ _ hS4 (fun hHeld => ?_)
  try simp only [Act.put, List.setIfInBounds_toArray, List.set_cons_zero, List.set_cons_succ]
  clear hK'
  refine lin_take (v := ?_) (by kernel_rfl) (by kernel_rfl) (fun _ _ _ h => hQ _ _ _ _ (by rfl) h) (Or.inl ⟨by rfl, ?_⟩) (by assumption) ?_; (rotate_left; (intro wS hSw; (try dsimp only at hSw); (try go_simp); (try with_reducible rfl)); rotate_left); simp only [Act.put, List.setIfInBounds_toArray, List.set_cons_zero, List.set_cons_succ]
  refine lin_take (v := ?_) (by kernel_rfl) (by kernel_rfl) (fun _ _ _ h => hQ _ _ _ _ (by rfl) h) (Or.inl ⟨by rfl, ?_⟩) (by assumption) ?_; (rotate_left; (intro wS hSw; (try dsimp only at hSw); (try go_simp); (try with_reducible rfl)); rotate_left); simp only [Act.put, List.setIfInBounds_toArray, List.set_cons_zero, List.set_cons_succ]
  refine lin_take (v := ?_) (by kernel_rfl) (by kernel_rfl) (fun _ _ _ h => hQ _ _ _ _ (by rfl) h) (Or.inl ⟨by rfl, ?_⟩) (by assumption) ?_; (rotate_left; (intro wS hSw; (try dsimp only at hSw); (try go_simp); (try with_reducible rfl)); rotate_left); simp only [Act.put, List.setIfInBounds_toArray, List.set_cons_zero, List.set_cons_succ]
  refine lin_take (v := ?_) (by kernel_rfl) (by kernel_rfl) (fun _ _ _ h => hQ _ _ _ _ (by rfl) h) (Or.inl ⟨by rfl, ?_⟩) (by assumption) ?_; (rotate_left; (intro wS hSw; (try dsimp only at hSw); (try go_simp); (try with_reducible rfl)); rotate_left); simp only [Act.put, List.setIfInBounds_toArray, List.set_cons_zero, List.set_cons_succ]
  refine lin_take (v := ?_) (by kernel_rfl) (by kernel_rfl) (fun _ _ _ h => hQ _ _ _ _ (by rfl) h) (Or.inl ⟨by rfl, ?_⟩) (by assumption) ?_; (rotate_left; (intro wS hSw; (try dsimp only at hSw); (try go_simp); (try with_reducible rfl)); rotate_left); simp only [Act.put, List.setIfInBounds_toArray, List.set_cons_zero, List.set_cons_succ]
  refine lin_done (by kernel_rfl) ?_
  clear hHeld hS3 h7 h8
  obtain ⟨m2, hm2⟩ : ∃ z, m.set ix n = z := ⟨_, rfl⟩
  have hm2l : m2.length = 61 := by rw [← hm2, List.length_set]; exact hml.out
  obtain ⟨y1, -, -, -, -⟩ := hS4
  have f1 : w6.frozen? ⟨g3, o3 + ix, none⟩ = false := by
    have hr6 : Row w6 3 1 (.slice (some ⟨g3, o3, none⟩) 61 mc) 61 (m.map (.int .i64)) := h9.row 6 (by show some (mRow _ _) = _; unfold mRow; rw [hml.out])
    have := hr6.free (j := ix) (by omega)
    rwa [Addr.add_lit] at this
  have hA : Own w (w6.setCell ⟨g3, o3 + ix, none⟩ (.int .i64 n)) (storeA g sb m :: (As K) :: CB pb qb rb kb fb Rv Pv F (.slice (some ⟨g3, o3, none⟩) 61 mc) m2 (ex ++ [cellsA sb2 #[.int .i64 1, .int .i64 it, .int .i64 n] 79])) := CB.mset h9 hml.out n m2 hm2
  clear h9
  replace hA := Lib.hid hA
  replace hm2l := Lib.hid hm2l
  go_upto_region 32 with fail
  clear y1 f1
  generalize w6.setCell ⟨g3, o3 + ix, none⟩ (.int .i64 n) = u7 at *
  have ST := Lib.hid (own_store hA.out 0 rfl (k := ix) (by rw [hml.out]; omega) n m2 hm2)
  clear hm2 hX
  go_wp2_with (go_at_call 42; refine ST.out.mono ?_; rintro e w8 ⟨rfl, hB⟩; replace hB := Lib.hid hB)
  replace hB : Own w w8 (storeA g sb m2 :: (As K) :: CB pb qb rb kb fb Rv Pv F (.slice (some ⟨g3, o3, none⟩) 61 mc) m2 (ex ++ [cellsA sb2 #[.int .i64 1, .int .i64 it, .int .i64 n] 79])) := hB.out
  refine hK.out _ _ _ _ _ _ _ _ _ _ _ _ _ _ _ _ _ _ _ _ _ _ _ _ _ _ _ _ _ _ _ _ _ _ _ _ _ _ _ _ _ _ _ _ _ _ _ _ _ _ _ _ _ _ _ _ _ _ _ _ _ _ _ _ _ _ _ _ _ _ _ _ _ _ _ _ _ _ _ _ _ _ _ _ _ _ _ _ _ _ _ _ _ _ _ _ _ _ _ _ _ _ _ _ _ _ _ _ _ _ _ _ _ _ _ _ _ _ _ _ _ _ _ _ _ _ _ _ _ _ _ _ _ _ _ _ _ _ _ _ _ _ _ _ _ _ _ _ _ _ _ _ _ _ _ _ _ _ _ _ _ _ _ _ _ _ _ _ _ _ _ _ _ _ _ _ _ _ _ _ _ _ _ _ _ _ _ _ _ _ _ _ _ _ _ _ _ _ _ ?_
  exact ⟨some ⟨g3, o3, none⟩, mc, m2, Rv, Pv, F, _, rfl, hm2l.out, (fun _ _ => rfl), (fun _ _ => rfl), (fun _ _ => rfl), hcw, CB.unbox hB⟩
theorem sw6 (u0 u1 u2 u10 u14 u15 u16 u17 u18 u19 u20 u21 u22 u23 u24 u25 u26 u27 u28 u29 u30 u31 u32 u33 u34 u35 u36 u37 u38 u39 u40 u41 u42 u43 u44 u45 u46 u47 u48 u49 u50 u51 u52 u53 u54 u55 u56 u57 u58 u59 u60 u61 u62 u63 u64 u65 u66 u67 u68 u69 u70 u71 u72 u73 u74 u75 u76 u77 u78 u79 u80 u81 u82 u83 u84 u85 u86 u87 u88 u89 u90 u91 u92 u93 u94 u95 u96 u97 u98 u99 u100 u101 u102 u103 u104 u105 u106 u107 u108 u109 u110 u111 u112 u113 u114 u115 u116 u117 u118 u119 u120 u121 u122 u123 u124 u125 u126 u127 u128 u129 u130 u131 u132 u133 u134 u135 u136 u137 u138 u139 u140 u141 u142 u143 u144 u145 u146 u147 u148 u149 u150 u151 u152 u153 u154 u155 u156 u157 u158 u159 u160 u161 u162 u163 u164 u165 u166 u167 u168 u169 u170 u171 u172 u173 u174 u175 u176 u177 u178 u179 u180 u181 u182 u183 u184 u185 u186 u187 u188 u189 u190 u191 u192 u193 u194 u195 u196 u197 u198 u199 u200 u201 u202 u203 u204 u205 u206 u207 u208 u209 u210 u211 u212 u213 u214 u215 u216 u217 u218 u219 u220 u221 u222 u223 u224 u225 u226 u227 u228 u229 u230 u231 u232 u233 u234 u235 u236 u237 u238 u239 u240 u241 u242 u243 u244 u245 u246 u247 u248 u249 u250 u251 u252 u253 u254 u255 u256 u257 u258 u259 u260 u261 u262 u263 u264 u265 u266 u267 u268 u269 u270 u271 u272 u273 u274 u275 u276 u277 u278 u279 u280 u281 u282 u283 u284 u285 u286 u287 u288 u289 u290 u291 u292 : Value) {w u : World} {g sb pb qb rb kb fb ob xb K mc : Nat} {mo : Option Addr} {m : List Int} {Rv Pv : Nat → Value} {As : Nat → Ast} {F : Nat → Nat → Value} {ex : List Ast} {who se it n : Int} {Kont : Act → World → Prop} {Q : Exit → Act → World → Prop}
    (hQ : ∀ (ch : List PanicEntry) (a a' : Act) (w : World), a.defers = a'.defers → Q (Exit.panic ch) a w → Q (Exit.panic ch) a' w) (hOB : (cellsA ob #[.int .i64 6, .int .i64 who, .int .i64 se, .int .i64 it, .int .i64 n] 72) ∈ ex) (hXB : (cellsA xb #[.int .i64 1, .int .i64 3, .int .i64 3, .int .i64 3, .int .i64 2, .int .i64 se] 32) ∈ ex) (hml : m.length = 61) (hK3 : K < 3) (hrg : -1099511627776 ≤ it ∧ it ≤ 1099511627776) (h4 : Own w u (storeA g sb m :: (As K) :: CB pb qb rb kb fb Rv Pv F (.slice mo 61 mc) m ex)) (hcw : CWD (Rv K) (Pv K) (As K) (F K))
    (hK : ∀ (x14 x15 x16 x17 x18 x19 x20 x21 x22 x23 x24 x25 x81 x82 x83 x84 x85 x86 x87 x88 x89 x90 x91 x92 x93 x94 x95 x96 x97 x98 x99 x100 x101 x102 x103 x104 x105 x106 x107 x108 x109 x110 x111 x112 x113 x114 x115 x116 x117 x118 x119 x120 x121 x122 x123 x124 x125 x126 x127 x128 x129 x130 x131 x132 x133 x134 x135 x136 x137 x138 x139 x140 x141 x142 x143 x144 x145 x146 x147 x148 x149 x150 x151 x152 x153 x154 x155 x156 x157 x158 x159 x160 x161 x162 x163 x164 x165 x166 x167 x168 x169 x170 x171 x172 x173 x174 x175 x176 x177 x178 x179 x180 x181 x182 x183 x184 x185 x186 x187 x188 x189 x190 x191 x192 x193 x194 x195 x196 x197 x198 x199 x200 x201 x202 x203 x204 x205 x206 x207 x208 x209 x210 x211 x212 x213 x214 x215 x216 x217 x218 x219 x220 x221 x222 x223 x224 x225 x226 x227 x228 x229 x230 x231 x232 x233 x234 x235 x236 x237 x238 x239 x240 x241 x242 x243 x244 x245 x246 x247 x248 x249 x250 x251 x252 x253 x254 x255 x256 x257 x258 x259 x260 x261 x262 x263 x264 x265 mv : Value) (w' : World), SwOut w w' g sb pb qb rb kb fb K Rv Pv F ex mv → Kont ⟨#[u0, u1, u2, (.pointer (some ⟨pb, 0, none⟩)), (.pointer (some ⟨qb, 0, none⟩)), (.pointer (some ⟨g, 0, none⟩)), mv, (.slice (some ⟨rb, 0, none⟩) 3 3), (.slice (some ⟨kb, 0, none⟩) 3 3), (.slice (some ⟨fb, 0, none⟩) 3 3), u10, (.pointer (some ⟨ob, 0, none⟩)), (.int .i64 (K : Int)), (.pointer (some ⟨xb, 0, none⟩)), x14, x15, x16, x17, x18, x19, x20, x21, x22, x23, x24, x25, u26, u27, u28, u29, u30, u31, u32, u33, u34, u35, u36, u37, u38, u39, u40, u41, u42, u43, u44, u45, u46, u47, u48, u49, u50, u51, u52, u53, u54, u55, u56, u57, u58, u59, u60, u61, u62, u63, u64, u65, u66, u67, u68, u69, u70, u71, u72, u73, u74, u75, u76, u77, u78, u79, u80, x81, x82, x83, x84, x85, x86, x87, x88, x89, x90, x91, x92, x93, x94, x95, x96, x97, x98, x99, x100, x101, x102, x103, x104, x105, x106, x107, x108, x109, x110, x111, x112, x113, x114, x115, x116, x117, x118, x119, x120, x121, x122, x123, x124, x125, x126, x127, x128, x129, x130, x131, x132, x133, x134, x135, x136, x137, x138, x139, x140, x141, x142, x143, x144, x145, x146, x147, x148, x149, x150, x151, x152, x153, x154, x155, x156, x157, x158, x159, x160, x161, x162, x163, x164, x165, x166, x167, x168, x169, x170, x171, x172, x173, x174, x175, x176, x177, x178, x179, x180, x181, x182, x183, x184, x185, x186, x187, x188, x189, x190, x191, x192, x193, x194, x195, x196, x197, x198, x199, x200, x201, x202, x203, x204, x205, x206, x207, x208, x209, x210, x211, x212, x213, x214, x215, x216, x217, x218, x219, x220, x221, x222, x223, x224, x225, x226, x227, x228, x229, x230, x231, x232, x233, x234, x235, x236, x237, x238, x239, x240, x241, x242, x243, x244, x245, x246, x247, x248, x249, x250, x251, x252, x253, x254, x255, x256, x257, x258, x259, x260, x261, x262, x263, x264, x265, u266, u267, u268, u269, u270, u271, u272, u273, u274, u275, u276, u277, u278, u279, u280, u281, u282, u283, u284, u285, u286, u287, u288, u289, u290, u291, u292], []⟩ w') :
    Code.wp Try.prog SW19 (Exit.then Kont Q) ⟨#[u0, u1, u2, (.pointer (some ⟨pb, 0, none⟩)), (.pointer (some ⟨qb, 0, none⟩)), (.pointer (some ⟨g, 0, none⟩)), (.slice mo 61 mc), (.slice (some ⟨rb, 0, none⟩) 3 3), (.slice (some ⟨kb, 0, none⟩) 3 3), (.slice (some ⟨fb, 0, none⟩) 3 3), u10, (.pointer (some ⟨ob, 0, none⟩)), (.int .i64 (K : Int)), (.pointer (some ⟨xb, 0, none⟩)), u14, u15, u16, u17, u18, u19, u20, u21, u22, u23, u24, u25, u26, u27, u28, u29, u30, u31, u32, u33, u34, u35, u36, u37, u38, u39, u40, u41, u42, u43, u44, u45, u46, u47, u48, u49, u50, u51, u52, u53, u54, u55, u56, u57, u58, u59, u60, u61, u62, u63, u64, u65, u66, u67, u68, u69, u70, u71, u72, u73, u74, u75, u76, u77, u78, u79, u80, u81, u82, u83, u84, u85, u86, u87, u88, u89, u90, u91, u92, u93, u94, u95, u96, u97, u98, u99, u100, u101, u102, u103, u104, u105, u106, u107, u108, u109, u110, u111, u112, u113, u114, u115, u116, u117, u118, u119, u120, u121, u122, u123, u124, u125, u126, u127, u128, u129, u130, u131, u132, u133, u134, u135, u136, u137, u138, u139, u140, u141, u142, u143, u144, u145, u146, u147, u148, u149, u150, u151, u152, u153, u154, u155, u156, u157, u158, u159, u160, u161, u162, u163, u164, u165, u166, u167, u168, u169, u170, u171, u172, u173, u174, u175, u176, u177, u178, u179, u180, u181, u182, u183, u184, u185, u186, u187, u188, u189, u190, u191, u192, u193, u194, u195, u196, u197, u198, u199, u200, u201, u202, u203, u204, u205, u206, u207, u208, u209, u210, u211, u212, u213, u214, u215, u216, u217, u218, u219, u220, u221, u222, u223, u224, u225, u226, u227, u228, u229, u230, u231, u232, u233, u234, u235, u236, u237, u238, u239, u240, u241, u242, u243, u244, u245, u246, u247, u248, u249, u250, u251, u252, u253, u254, u255, u256, u257, u258, u259, u260, u261, u262, u263, u264, u265, u266, u267, u268, u269, u270, u271, u272, u273, u274, u275, u276, u277, u278, u279, u280, u281, u282, u283, u284, u285, u286, u287, u288, u289, u290, u291, u292], []⟩ u := by
  have hK3i : (K : Int) < 3 := by omega
  have iK : IntKind.i64.wrap (K : Int) = (K : Int) := IntWalk.i64_in _ (by omega)
  have OC := Lib.hid (fun (w1 : World) (m1 m2 : List Int) (A : Ast) (Rv1 Pv1 : Nat → Value) (F1 : Nat → Nat → Value) (mv : Value) (l : List Ast) (h : Own w w1 (storeA g sb m1 :: A :: CB pb qb rb kb fb Rv1 Pv1 F1 mv m2 (ex ++ l))) => oc19 hOB hXB w1 m1 m2 A Rv1 Pv1 F1 mv l h)
  replace hml := Lib.hid hml
  replace hK := Lib.hid hK
  replace h4 := Lib.hid h4
  clear hOB hXB
  unfold SW19
  conv => arg 2; whnf
  have hix := ixC_lt it (k := 2) (by omega)
  have WD := Lib.hid (fun w1 => rcword 6 it n 2 (by unfold kindK; omega) (by omega) w1)
  have DD := Lib.hid (fun (x : Int) (w1 : World) => rcDo6 it n se x w1)
  generalize ixC it 2 = ix at *



  have hrow := h4.out.row 6 rfl
  obtain ⟨g3, o3, cap3, hv3, -, -, -, -⟩ := hrow.addr (show 0 < m.length by rw [hml.out]; omega)
  rw [hml.out] at hv3
  simp only [Value.slice.injEq] at hv3
  obtain ⟨rfl, -, rfl⟩ := hv3
  clear hrow
  obtain ⟨⟨o0, o2, o3_, o4⟩, -⟩ := OC.out _ _ _ _ _ _ _ _ [] (by simpa using h4.out)
  have h5 := h4.out.alloc (.cells #[.int .i64 1, .int .i64 6, .int .i64 3] 3)
  have oA := (OC.out _ _ _ _ _ _ _ _ [] (by simpa using h5)).1.1
  replace h5 := Lib.hid h5
  go_upto_region 28 with fail
  replace h5 := h5.out
  clear h4 o0 o2 o3_ o4 oA
  generalize u.alloc (.cells #[.int .i64 1, .int .i64 6, .int .i64 3] 3) = u2 at *
  obtain ⟨⟨o0, o2, o3_, o4⟩, -⟩ := OC.out _ _ _ _ _ _ _ _ [] (by simpa using h5)
  have h6 := CB.box h5 #[.int .i64 6, .int .i64 it, .int .i64 n] 79
  go_upto_region 29 with fail
  clear h5 o0 o2 o3_ o4
  generalize u2.alloc (.cells #[.int .i64 6, .int .i64 it, .int .i64 n] 79) = u3 at *
  generalize u2.heap.size = sb2 at *
  replace h6 : Own w u3 (storeA g sb m :: (As K) :: CB pb qb rb kb fb Rv Pv F (.slice (some ⟨g3, o3, none⟩) 61 mc) m (ex ++ [cellsA sb2 #[.int .i64 6, .int .i64 it, .int .i64 n] 79])) := h6
  obtain ⟨X, hX⟩ : ∃ X, m.getD ix 0 = X := ⟨_, rfl⟩
  have KS := Lib.hid (fun (w' : World) (h : Own w w' (storeA g sb m :: (As K) :: CB pb qb rb kb fb Rv Pv F (.slice (some ⟨g3, o3, none⟩) 61 mc) m (ex ++ [cellsA sb2 #[.int .i64 6, .int .i64 it, .int .i64 n] 79]))) => show (fun w' : World => w'.cell? ⟨g3, o3 + ix, none⟩ = some (.int .i64 X) ∧ w'.cell? ⟨ob, 2, none⟩ = some (.int .i64 se) ∧ w'.cell? ⟨sb2, 0, none⟩ = some (.int .i64 6) ∧ w'.cell? ⟨sb2, 1, none⟩ = some (.int .i64 it) ∧ w'.cell? ⟨sb2, 2, none⟩ = some (.int .i64 n)) w' from ⟨h.row_at 6 (e := 3) (size := 1) (n := 61) (xs := m.map (.int .i64)) (by show some (mRow _ _) = _; unfold mRow; rw [hml.out]) (by rw [getD_map (by rw [hml.out]; omega), hX]), (OC.out _ _ _ _ _ _ _ _ _ h).1.2.1, CB.get h (nb := sb2) (cs := #[.int .i64 6, .int .i64 it, .int .i64 n]) (t := 79) (by simp) 0, CB.get h (nb := sb2) (cs := #[.int .i64 6, .int .i64 it, .int .i64 n]) (t := 79) (by simp) 1, CB.get h (nb := sb2) (cs := #[.int .i64 6, .int .i64 it, .int .i64 n]) (t := 79) (by simp) 2⟩)
  obtain ⟨-, ⟨p0, p1, p2, p3⟩⟩ := CB.plan h6
  obtain ⟨y1, y2, y3, y4, y5⟩ := KS.out _ h6
  go_upto_region 30 with (go_at_call 40; refine (WD.out _).mono ?_; rintro e w5 ⟨rfl, hb5⟩)
  have h7 := h6.grow hb5
  clear h6 hb5 p0 p1 p2 p3 y1 y2 y3 y4 y5
  have h8 := h7.drewN 1
  have hS3 := KS.out _ h8
  have z1 : (ix : Int) < 61 := by omega
  have z2 : (0 : Int) ≤ (ix : Int) := by omega
  have z3 : IntKind.i64.wrap (ix : Int) = (ix : Int) := IntWalk.i64_in _ (by omega)
  refine lin_start (S := (fun w' : World => w'.cell? ⟨g3, o3 + ix, none⟩ = some (.int .i64 X) ∧ w'.cell? ⟨ob, 2, none⟩ = some (.int .i64 se) ∧ w'.cell? ⟨sb2, 0, none⟩ = some (.int .i64 6) ∧ w'.cell? ⟨sb2, 1, none⟩ = some (.int .i64 it) ∧ w'.cell? ⟨sb2, 2, none⟩ = some (.int .i64 n))) rfl 13 rfl hS3 ?_
  simp only [numbered, Nat.zero_add, Nat.reduceAdd]
  refine lin_take (v := ?_) (by kernel_rfl) (by kernel_rfl) (fun _ _ _ h => hQ _ _ _ _ (by rfl) h) (Or.inl ⟨by rfl, ?_⟩) (by assumption) ?_; (rotate_left; (intro wS hSw; (try dsimp only at hSw); (try go_simp); (try with_reducible rfl)); rotate_left); simp only [Act.put, List.setIfInBounds_toArray, List.set_cons_zero, List.set_cons_succ]
  refine lin_take (v := ?_) (by kernel_rfl) (by kernel_rfl) (fun _ _ _ h => hQ _ _ _ _ (by rfl) h) (Or.inl ⟨by rfl, ?_⟩) (by assumption) ?_; (rotate_left; (intro wS hSw; (try dsimp only at hSw); (try go_simp); (try with_reducible rfl)); rotate_left); simp only [Act.put, List.setIfInBounds_toArray, List.set_cons_zero, List.set_cons_succ]
  refine lin_take (v := ?_) (by kernel_rfl) (by kernel_rfl) (fun _ _ _ h => hQ _ _ _ _ (by rfl) h) (Or.inl ⟨by rfl, ?_⟩) (by assumption) ?_; (rotate_left; (intro wS hSw; (try dsimp only at hSw); (try go_simp); (try with_reducible rfl)); rotate_left); simp only [Act.put, List.setIfInBounds_toArray, List.set_cons_zero, List.set_cons_succ]
  refine lin_take (v := ?_) (by kernel_rfl) (by kernel_rfl) (fun _ _ _ h => hQ _ _ _ _ (by rfl) h) (Or.inl ⟨by rfl, ?_⟩) (by assumption) ?_; (rotate_left; (intro wS hSw; (try dsimp only at hSw); (try go_simp); (try with_reducible rfl)); rotate_left); simp only [Act.put, List.setIfInBounds_toArray, List.set_cons_zero, List.set_cons_succ]
  refine lin_take (v := ?_) (by kernel_rfl) (by kernel_rfl) (fun _ _ _ h => hQ _ _ _ _ (by rfl) h) (Or.inl ⟨by rfl, ?_⟩) (by assumption) ?_; (rotate_left; (intro wS hSw; (try dsimp only at hSw); (try go_simp); (try with_reducible rfl)); rotate_left); simp only [Act.put, List.setIfInBounds_toArray, List.set_cons_zero, List.set_cons_succ]
  refine lin_take (v := ?_) (by kernel_rfl) (by kernel_rfl) (fun _ _ _ h => hQ _ _ _ _ (by rfl) h) (Or.inl ⟨by rfl, ?_⟩) (by assumption) ?_; (rotate_left; (intro wS hSw; (try dsimp only at hSw); (try go_simp); (try with_reducible rfl)); rotate_left); simp only [Act.put, List.setIfInBounds_toArray, List.set_cons_zero, List.set_cons_succ]
  refine lin_take (v := ?_) (by kernel_rfl) (by kernel_rfl) (fun _ _ _ h => hQ _ _ _ _ (by rfl) h) (Or.inl ⟨by rfl, ?_⟩) (by assumption) ?_; (rotate_left; (intro wS hSw; (try dsimp only at hSw); (try go_simp); (try with_reducible rfl)); rotate_left); simp only [Act.put, List.setIfInBounds_toArray, List.set_cons_zero, List.set_cons_succ]
  refine lin_sole (by kernel_rfl) (fun K' hK' => ?_)
  go_simp
  refine (DD.out X _).mono ?_
  rintro e w6 ⟨rfl, hb6⟩
  have h9 := h8.grow hb6
  clear hb6
  have hS4 := KS.out _ h9
  refine hK'.out _ _ hS4 (fun hHeld => ?_)
  try simp only [Act.put, List.setIfInBounds_toArray, List.set_cons_zero, List.set_cons_succ]
  clear hK'
  refine lin_take (v := ?_) (by kernel_rfl) (by kernel_rfl) (fun _ _ _ h => hQ _ _ _ _ (by rfl) h) (Or.inl ⟨by rfl, ?_⟩) (by assumption) ?_; (rotate_left; (intro wS hSw; (try dsimp only at hSw); (try go_simp); (try with_reducible rfl)); rotate_left); simp only [Act.put, List.setIfInBounds_toArray, List.set_cons_zero, List.set_cons_succ]
  refine lin_take (v := ?_) (by kernel_rfl) (by kernel_rfl) (fun _ _ _ h => hQ _ _ _ _ (by rfl) h) (Or.inl ⟨by rfl, ?_⟩) (by assumption) ?_; (rotate_left; (intro wS hSw; (try dsimp only at hSw); (try go_simp); (try with_reducible rfl)); rotate_left); simp only [Act.put, List.setIfInBounds_toArray, List.set_cons_zero, List.set_cons_succ]
  refine lin_take (v := ?_) (by kernel_rfl) (by kernel_rfl) (fun _ _ _ h => hQ _ _ _ _ (by rfl) h) (Or.inl ⟨by rfl, ?_⟩) (by assumption) ?_; (rotate_left; (intro wS hSw; (try dsimp only at hSw); (try go_simp); (try with_reducible rfl)); rotate_left); simp only [Act.put, List.setIfInBounds_toArray, List.set_cons_zero, List.set_cons_succ]
  refine lin_take (v := ?_) (by kernel_rfl) (by kernel_rfl) (fun _ _ _ h => hQ _ _ _ _ (by rfl) h) (Or.inl ⟨by rfl, ?_⟩) (by assumption) ?_; (rotate_left; (intro wS hSw; (try dsimp only at hSw); (try go_simp); (try with_reducible rfl)); rotate_left); simp only [Act.put, List.setIfInBounds_toArray, List.set_cons_zero, List.set_cons_succ]
  refine lin_take (v := ?_) (by kernel_rfl) (by kernel_rfl) (fun _ _ _ h => hQ _ _ _ _ (by rfl) h) (Or.inl ⟨by rfl, ?_⟩) (by assumption) ?_; (rotate_left; (intro wS hSw; (try dsimp only at hSw); (try go_simp); (try with_reducible rfl)); rotate_left); simp only [Act.put, List.setIfInBounds_toArray, List.set_cons_zero, List.set_cons_succ]
  refine lin_done (by kernel_rfl) ?_
  clear hHeld hS3 h7 h8
  obtain ⟨m2, hm2⟩ : ∃ z, m.set ix n = z := ⟨_, rfl⟩
  have hm2l : m2.length = 61 := by rw [← hm2, List.length_set]; exact hml.out
  obtain ⟨y1, -, -, -, -⟩ := hS4
  have f1 : w6.frozen? ⟨g3, o3 + ix, none⟩ = false := by
    have hr6 : Row w6 3 1 (.slice (some ⟨g3, o3, none⟩) 61 mc) 61 (m.map (.int .i64)) := h9.row 6 (by show some (mRow _ _) = _; unfold mRow; rw [hml.out])
    have := hr6.free (j := ix) (by omega)
    rwa [Addr.add_lit] at this
  have hA : Own w (w6.setCell ⟨g3, o3 + ix, none⟩ (.int .i64 n)) (storeA g sb m :: (As K) :: CB pb qb rb kb fb Rv Pv F (.slice (some ⟨g3, o3, none⟩) 61 mc) m2 (ex ++ [cellsA sb2 #[.int .i64 6, .int .i64 it, .int .i64 n] 79])) := CB.mset h9 hml.out n m2 hm2
  clear h9
  replace hA := Lib.hid hA
  replace hm2l := Lib.hid hm2l
  go_upto_region 32 with fail
  clear y1 f1
  generalize w6.setCell ⟨g3, o3 + ix, none⟩ (.int .i64 n) = u7 at *
  have ST := Lib.hid (own_store hA.out 0 rfl (k := ix) (by rw [hml.out]; omega) n m2 hm2)
  clear hm2 hX
  go_wp2_with (go_at_call 42; refine ST.out.mono ?_; rintro e w8 ⟨rfl, hB⟩; replace hB := Lib.hid hB)
  replace hB : Own w w8 (storeA g sb m2 :: (As K) :: CB pb qb rb kb fb Rv Pv F (.slice (some ⟨g3, o3, none⟩) 61 mc) m2 (ex ++ [cellsA sb2 #[.int .i64 6, .int .i64 it, .int .i64 n] 79])) := hB.out
  refine hK.out _ _ _ _ _ _ _ _ _ _ _ _ _ _ _ _ _ _ _ _ _ _ _ _ _ _ _ _ _ _ _ _ _ _ _ _ _ _ _ _ _ _ _ _ _ _ _ _ _ _ _ _ _ _ _ _ _ _ _ _ _ _ _ _ _ _ _ _ _ _ _ _ _ _ _ _ _ _ _ _ _ _ _ _ _ _ _ _ _ _ _ _ _ _ _ _ _ _ _ _ _ _ _ _ _ _ _ _ _ _ _ _ _ _ _ _ _ _ _ _ _ _ _ _ _ _ _ _ _ _ _ _ _ _ _ _ _ _ _ _ _ _ _ _ _ _ _ _ _ _ _ _ _ _ _ _ _ _ _ _ _ _ _ _ _ _ _ _ _ _ _ _ _ _ _ _ _ _ _ _ _ _ _ _ _ _ _ _ _ _ _ _ _ _ _ _ _ _ _ ?_
  exact ⟨some ⟨g3, o3, none⟩, mc, m2, Rv, Pv, F, _, rfl, hm2l.out, (fun _ _ => rfl), (fun _ _ => rfl), (fun _ _ => rfl), hcw, CB.unbox hB⟩
theorem sw7 (u0 u1 u2 u10 u14 u15 u16 u17 u18 u19 u20 u21 u22 u23 u24 u25 u26 u27 u28 u29 u30 u31 u32 u33 u34 u35 u36 u37 u38 u39 u40 u41 u42 u43 u44 u45 u46 u47 u48 u49 u50 u51 u52 u53 u54 u55 u56 u57 u58 u59 u60 u61 u62 u63 u64 u65 u66 u67 u68 u69 u70 u71 u72 u73 u74 u75 u76 u77 u78 u79 u80 u81 u82 u83 u84 u85 u86 u87 u88 u89 u90 u91 u92 u93 u94 u95 u96 u97 u98 u99 u100 u101 u102 u103 u104 u105 u106 u107 u108 u109 u110 u111 u112 u113 u114 u115 u116 u117 u118 u119 u120 u121 u122 u123 u124 u125 u126 u127 u128 u129 u130 u131 u132 u133 u134 u135 u136 u137 u138 u139 u140 u141 u142 u143 u144 u145 u146 u147 u148 u149 u150 u151 u152 u153 u154 u155 u156 u157 u158 u159 u160 u161 u162 u163 u164 u165 u166 u167 u168 u169 u170 u171 u172 u173 u174 u175 u176 u177 u178 u179 u180 u181 u182 u183 u184 u185 u186 u187 u188 u189 u190 u191 u192 u193 u194 u195 u196 u197 u198 u199 u200 u201 u202 u203 u204 u205 u206 u207 u208 u209 u210 u211 u212 u213 u214 u215 u216 u217 u218 u219 u220 u221 u222 u223 u224 u225 u226 u227 u228 u229 u230 u231 u232 u233 u234 u235 u236 u237 u238 u239 u240 u241 u242 u243 u244 u245 u246 u247 u248 u249 u250 u251 u252 u253 u254 u255 u256 u257 u258 u259 u260 u261 u262 u263 u264 u265 u266 u267 u268 u269 u270 u271 u272 u273 u274 u275 u276 u277 u278 u279 u280 u281 u282 u283 u284 u285 u286 u287 u288 u289 u290 u291 u292 : Value) {w u : World} {g sb pb qb rb kb fb ob xb K mc : Nat} {mo : Option Addr} {m : List Int} {Rv Pv : Nat → Value} {As : Nat → Ast} {F : Nat → Nat → Value} {ex : List Ast} {who se it n : Int} {Kont : Act → World → Prop} {Q : Exit → Act → World → Prop}
    (hQ : ∀ (ch : List PanicEntry) (a a' : Act) (w : World), a.defers = a'.defers → Q (Exit.panic ch) a w → Q (Exit.panic ch) a' w) (hOB : (cellsA ob #[.int .i64 7, .int .i64 who, .int .i64 se, .int .i64 it, .int .i64 n] 72) ∈ ex) (hXB : (cellsA xb #[.int .i64 1, .int .i64 3, .int .i64 3, .int .i64 3, .int .i64 2, .int .i64 se] 32) ∈ ex) (hml : m.length = 61) (hK3 : K < 3) (hrg : -1099511627776 ≤ it ∧ it ≤ 1099511627776) (h4 : Own w u (storeA g sb m :: (As K) :: CB pb qb rb kb fb Rv Pv F (.slice mo 61 mc) m ex)) (hcw : CWD (Rv K) (Pv K) (As K) (F K))
    (hK : ∀ (x14 x15 x16 x17 x18 x19 x20 x21 x22 x23 x24 x25 x81 x82 x83 x84 x85 x86 x87 x88 x89 x90 x91 x92 x93 x94 x95 x96 x97 x98 x99 x100 x101 x102 x103 x104 x105 x106 x107 x108 x109 x110 x111 x112 x113 x114 x115 x116 x117 x118 x119 x120 x121 x122 x123 x124 x125 x126 x127 x128 x129 x130 x131 x132 x133 x134 x135 x136 x137 x138 x139 x140 x141 x142 x143 x144 x145 x146 x147 x148 x149 x150 x151 x152 x153 x154 x155 x156 x157 x158 x159 x160 x161 x162 x163 x164 x165 x166 x167 x168 x169 x170 x171 x172 x173 x174 x175 x176 x177 x178 x179 x180 x181 x182 x183 x184 x185 x186 x187 x188 x189 x190 x191 x192 x193 x194 x195 x196 x197 x198 x199 x200 x201 x202 x203 x204 x205 x206 x207 x208 x209 x210 x211 x212 x213 x214 x215 x216 x217 x218 x219 x220 x221 x222 x223 x224 x225 x226 x227 x228 x229 x230 x231 x232 x233 x234 x235 x236 x237 x238 x239 x240 x241 x242 x243 x244 x245 x246 x247 x248 x249 x250 x251 x252 x253 x254 x255 x256 x257 x258 x259 x260 x261 x262 x263 x264 x265 mv : Value) (w' : World), SwOut w w' g sb pb qb rb kb fb K Rv Pv F ex mv → Kont ⟨#[u0, u1, u2, (.pointer (some ⟨pb, 0, none⟩)), (.pointer (some ⟨qb, 0, none⟩)), (.pointer (some ⟨g, 0, none⟩)), mv, (.slice (some ⟨rb, 0, none⟩) 3 3), (.slice (some ⟨kb, 0, none⟩) 3 3), (.slice (some ⟨fb, 0, none⟩) 3 3), u10, (.pointer (some ⟨ob, 0, none⟩)), (.int .i64 (K : Int)), (.pointer (some ⟨xb, 0, none⟩)), x14, x15, x16, x17, x18, x19, x20, x21, x22, x23, x24, x25, u26, u27, u28, u29, u30, u31, u32, u33, u34, u35, u36, u37, u38, u39, u40, u41, u42, u43, u44, u45, u46, u47, u48, u49, u50, u51, u52, u53, u54, u55, u56, u57, u58, u59, u60, u61, u62, u63, u64, u65, u66, u67, u68, u69, u70, u71, u72, u73, u74, u75, u76, u77, u78, u79, u80, x81, x82, x83, x84, x85, x86, x87, x88, x89, x90, x91, x92, x93, x94, x95, x96, x97, x98, x99, x100, x101, x102, x103, x104, x105, x106, x107, x108, x109, x110, x111, x112, x113, x114, x115, x116, x117, x118, x119, x120, x121, x122, x123, x124, x125, x126, x127, x128, x129, x130, x131, x132, x133, x134, x135, x136, x137, x138, x139, x140, x141, x142, x143, x144, x145, x146, x147, x148, x149, x150, x151, x152, x153, x154, x155, x156, x157, x158, x159, x160, x161, x162, x163, x164, x165, x166, x167, x168, x169, x170, x171, x172, x173, x174, x175, x176, x177, x178, x179, x180, x181, x182, x183, x184, x185, x186, x187, x188, x189, x190, x191, x192, x193, x194, x195, x196, x197, x198, x199, x200, x201, x202, x203, x204, x205, x206, x207, x208, x209, x210, x211, x212, x213, x214, x215, x216, x217, x218, x219, x220, x221, x222, x223, x224, x225, x226, x227, x228, x229, x230, x231, x232, x233, x234, x235, x236, x237, x238, x239, x240, x241, x242, x243, x244, x245, x246, x247, x248, x249, x250, x251, x252, x253, x254, x255, x256, x257, x258, x259, x260, x261, x262, x263, x264, x265, u266, u267, u268, u269, u270, u271, u272, u273, u274, u275, u276, u277, u278, u279, u280, u281, u282, u283, u284, u285, u286, u287, u288, u289, u290, u291, u292], []⟩ w') :
    Code.wp Try.prog SW19 (Exit.then Kont Q) ⟨#[u0, u1, u2, (.pointer (some ⟨pb, 0, none⟩)), (.pointer (some ⟨qb, 0, none⟩)), (.pointer (some ⟨g, 0, none⟩)), (.slice mo 61 mc), (.slice (some ⟨rb, 0, none⟩) 3 3), (.slice (some ⟨kb, 0, none⟩) 3 3), (.slice (some ⟨fb, 0, none⟩) 3 3), u10, (.pointer (some ⟨ob, 0, none⟩)), (.int .i64 (K : Int)), (.pointer (some ⟨xb, 0, none⟩)), u14, u15, u16, u17, u18, u19, u20, u21, u22, u23, u24, u25, u26, u27, u28, u29, u30, u31, u32, u33, u34, u35, u36, u37, u38, u39, u40, u41, u42, u43, u44, u45, u46, u47, u48, u49, u50, u51, u52, u53, u54, u55, u56, u57, u58, u59, u60, u61, u62, u63, u64, u65, u66, u67, u68, u69, u70, u71, u72, u73, u74, u75, u76, u77, u78, u79, u80, u81, u82, u83, u84, u85, u86, u87, u88, u89, u90, u91, u92, u93, u94, u95, u96, u97, u98, u99, u100, u101, u102, u103, u104, u105, u106, u107, u108, u109, u110, u111, u112, u113, u114, u115, u116, u117, u118, u119, u120, u121, u122, u123, u124, u125, u126, u127, u128, u129, u130, u131, u132, u133, u134, u135, u136, u137, u138, u139, u140, u141, u142, u143, u144, u145, u146, u147, u148, u149, u150, u151, u152, u153, u154, u155, u156, u157, u158, u159, u160, u161, u162, u163, u164, u165, u166, u167, u168, u169, u170, u171, u172, u173, u174, u175, u176, u177, u178, u179, u180, u181, u182, u183, u184, u185, u186, u187, u188, u189, u190, u191, u192, u193, u194, u195, u196, u197, u198, u199, u200, u201, u202, u203, u204, u205, u206, u207, u208, u209, u210, u211, u212, u213, u214, u215, u216, u217, u218, u219, u220, u221, u222, u223, u224, u225, u226, u227, u228, u229, u230, u231, u232, u233, u234, u235, u236, u237, u238, u239, u240, u241, u242, u243, u244, u245, u246, u247, u248, u249, u250, u251, u252, u253, u254, u255, u256, u257, u258, u259, u260, u261, u262, u263, u264, u265, u266, u267, u268, u269, u270, u271, u272, u273, u274, u275, u276, u277, u278, u279, u280, u281, u282, u283, u284, u285, u286, u287, u288, u289, u290, u291, u292], []⟩ u := by
  have hK3i : (K : Int) < 3 := by omega
  have iK : IntKind.i64.wrap (K : Int) = (K : Int) := IntWalk.i64_in _ (by omega)
  have OC := Lib.hid (fun (w1 : World) (m1 m2 : List Int) (A : Ast) (Rv1 Pv1 : Nat → Value) (F1 : Nat → Nat → Value) (mv : Value) (l : List Ast) (h : Own w w1 (storeA g sb m1 :: A :: CB pb qb rb kb fb Rv1 Pv1 F1 mv m2 (ex ++ l))) => oc19 hOB hXB w1 m1 m2 A Rv1 Pv1 F1 mv l h)
  replace hml := Lib.hid hml
  replace hK := Lib.hid hK
  replace h4 := Lib.hid h4
  clear hOB hXB
  unfold SW19
  conv => arg 2; whnf
  have hix := ixC_lt it (k := 1) (by omega)
  have WD := Lib.hid (fun w1 => rcword 3 it n 1 (by unfold kindK; omega) (by omega) w1)
  have DD := Lib.hid (fun (x : Int) (w1 : World) => rcDo3 it n se x w1)
  generalize ixC it 1 = ix at *
  obtain ⟨now, hnow⟩ : ∃ z, tokV se it n = z := ⟨_, rfl⟩
  rw [hnow] at DD
  clear hnow
  have hrow := h4.out.row 6 rfl
  obtain ⟨g3, o3, cap3, hv3, -, -, -, -⟩ := hrow.addr (show 0 < m.length by rw [hml.out]; omega)
  rw [hml.out] at hv3
  simp only [Value.slice.injEq] at hv3
  obtain ⟨rfl, -, rfl⟩ := hv3
  clear hrow
  obtain ⟨⟨o0, o2, o3_, o4⟩, -⟩ := OC.out _ _ _ _ _ _ _ _ [] (by simpa using h4.out)
  have h5 := h4.out.alloc (.cells #[.int .i64 1, .int .i64 6, .int .i64 3] 3)
  have oA := (OC.out _ _ _ _ _ _ _ _ [] (by simpa using h5)).1.1
  replace h5 := Lib.hid h5
  go_upto_region 28 with fail
  replace h5 := h5.out
  clear h4 o0 o2 o3_ o4 oA
  generalize u.alloc (.cells #[.int .i64 1, .int .i64 6, .int .i64 3] 3) = u2 at *
  obtain ⟨⟨o0, o2, o3_, o4⟩, -⟩ := OC.out _ _ _ _ _ _ _ _ [] (by simpa using h5)
  have h6 := CB.box h5 #[.int .i64 3, .int .i64 it, .int .i64 n] 79
  go_upto_region 29 with fail
  clear h5 o0 o2 o3_ o4
  generalize u2.alloc (.cells #[.int .i64 3, .int .i64 it, .int .i64 n] 79) = u3 at *
  generalize u2.heap.size = sb2 at *
  replace h6 : Own w u3 (storeA g sb m :: (As K) :: CB pb qb rb kb fb Rv Pv F (.slice (some ⟨g3, o3, none⟩) 61 mc) m (ex ++ [cellsA sb2 #[.int .i64 3, .int .i64 it, .int .i64 n] 79])) := h6
  obtain ⟨X, hX⟩ : ∃ X, m.getD ix 0 = X := ⟨_, rfl⟩
  have KS := Lib.hid (fun (w' : World) (h : Own w w' (storeA g sb m :: (As K) :: CB pb qb rb kb fb Rv Pv F (.slice (some ⟨g3, o3, none⟩) 61 mc) m (ex ++ [cellsA sb2 #[.int .i64 3, .int .i64 it, .int .i64 n] 79]))) => show (fun w' : World => w'.cell? ⟨g3, o3 + ix, none⟩ = some (.int .i64 X) ∧ w'.cell? ⟨ob, 2, none⟩ = some (.int .i64 se) ∧ w'.cell? ⟨sb2, 0, none⟩ = some (.int .i64 3) ∧ w'.cell? ⟨sb2, 1, none⟩ = some (.int .i64 it) ∧ w'.cell? ⟨sb2, 2, none⟩ = some (.int .i64 n)) w' from ⟨h.row_at 6 (e := 3) (size := 1) (n := 61) (xs := m.map (.int .i64)) (by show some (mRow _ _) = _; unfold mRow; rw [hml.out]) (by rw [getD_map (by rw [hml.out]; omega), hX]), (OC.out _ _ _ _ _ _ _ _ _ h).1.2.1, CB.get h (nb := sb2) (cs := #[.int .i64 3, .int .i64 it, .int .i64 n]) (t := 79) (by simp) 0, CB.get h (nb := sb2) (cs := #[.int .i64 3, .int .i64 it, .int .i64 n]) (t := 79) (by simp) 1, CB.get h (nb := sb2) (cs := #[.int .i64 3, .int .i64 it, .int .i64 n]) (t := 79) (by simp) 2⟩)
  obtain ⟨-, ⟨p0, p1, p2, p3⟩⟩ := CB.plan h6
  obtain ⟨y1, y2, y3, y4, y5⟩ := KS.out _ h6
  go_upto_region 30 with (go_at_call 40; refine (WD.out _).mono ?_; rintro e w5 ⟨rfl, hb5⟩)
  have h7 := h6.grow hb5
  clear h6 hb5 p0 p1 p2 p3 y1 y2 y3 y4 y5
  have h8 := h7.drewN 1
  have hS3 := KS.out _ h8
  have z1 : (ix : Int) < 61 := by omega
  have z2 : (0 : Int) ≤ (ix : Int) := by omega
  have z3 : IntKind.i64.wrap (ix : Int) = (ix : Int) := IntWalk.i64_in _ (by omega)
  refine lin_start (S := (fun w' : World => w'.cell? ⟨g3, o3 + ix, none⟩ = some (.int .i64 X) ∧ w'.cell? ⟨ob, 2, none⟩ = some (.int .i64 se) ∧ w'.cell? ⟨sb2, 0, none⟩ = some (.int .i64 3) ∧ w'.cell? ⟨sb2, 1, none⟩ = some (.int .i64 it) ∧ w'.cell? ⟨sb2, 2, none⟩ = some (.int .i64 n))) rfl 13 rfl hS3 ?_
  simp only [numbered, Nat.zero_add, Nat.reduceAdd]
  refine lin_take (v := ?_) (by kernel_rfl) (by kernel_rfl) (fun _ _ _ h => hQ _ _ _ _ (by rfl) h) (Or.inl ⟨by rfl, ?_⟩) (by assumption) ?_; (rotate_left; (intro wS hSw; (try dsimp only at hSw); (try go_simp); (try with_reducible rfl)); rotate_left); simp only [Act.put, List.setIfInBounds_toArray, List.set_cons_zero, List.set_cons_succ]
  refine lin_take (v := ?_) (by kernel_rfl) (by kernel_rfl) (fun _ _ _ h => hQ _ _ _ _ (by rfl) h) (Or.inl ⟨by rfl, ?_⟩) (by assumption) ?_; (rotate_left; (intro wS hSw; (try dsimp only at hSw); (try go_simp); (try with_reducible rfl)); rotate_left); simp only [Act.put, List.setIfInBounds_toArray, List.set_cons_zero, List.set_cons_succ]
  refine lin_take (v := ?_) (by kernel_rfl) (by kernel_rfl) (fun _ _ _ h => hQ _ _ _ _ (by rfl) h) (Or.inl ⟨by rfl, ?_⟩) (by assumption) ?_; (rotate_left; (intro wS hSw; (try dsimp only at hSw); (try go_simp); (try with_reducible rfl)); rotate_left); simp only [Act.put, List.setIfInBounds_toArray, List.set_cons_zero, List.set_cons_succ]
  refine lin_take (v := ?_) (by kernel_rfl) (by kernel_rfl) (fun _ _ _ h => hQ _ _ _ _ (by rfl) h) (Or.inl ⟨by rfl, ?_⟩) (by assumption) ?_; (rotate_left; (intro wS hSw; (try dsimp only at hSw); (try go_simp); (try with_reducible rfl)); rotate_left); simp only [Act.put, List.setIfInBounds_toArray, List.set_cons_zero, List.set_cons_succ]
  refine lin_take (v := ?_) (by kernel_rfl) (by kernel_rfl) (fun _ _ _ h => hQ _ _ _ _ (by rfl) h) (Or.inl ⟨by rfl, ?_⟩) (by assumption) ?_; (rotate_left; (intro wS hSw; (try dsimp only at hSw); (try go_simp); (try with_reducible rfl)); rotate_left); simp only [Act.put, List.setIfInBounds_toArray, List.set_cons_zero, List.set_cons_succ]
  refine lin_take (v := ?_) (by kernel_rfl) (by kernel_rfl) (fun _ _ _ h => hQ _ _ _ _ (by rfl) h) (Or.inl ⟨by rfl, ?_⟩) (by assumption) ?_; (rotate_left; (intro wS hSw; (try dsimp only at hSw); (try go_simp); (try with_reducible rfl)); rotate_left); simp only [Act.put, List.setIfInBounds_toArray, List.set_cons_zero, List.set_cons_succ]
  refine lin_take (v := ?_) (by kernel_rfl) (by kernel_rfl) (fun _ _ _ h => hQ _ _ _ _ (by rfl) h) (Or.inl ⟨by rfl, ?_⟩) (by assumption) ?_; (rotate_left; (intro wS hSw; (try dsimp only at hSw); (try go_simp); (try with_reducible rfl)); rotate_left); simp only [Act.put, List.setIfInBounds_toArray, List.set_cons_zero, List.set_cons_succ]
  refine lin_sole (by kernel_rfl) (fun K' hK' => ?_)
  go_simp
  refine (DD.out X _).mono ?_
  rintro e w6 ⟨rfl, hb6⟩
  have h9 := h8.grow hb6
  clear hb6
  have hS4 := KS.out _ h9
  refine hK'.out _ _ hS4 (fun hHeld => ?_)
  try simp only [Act.put, List.setIfInBounds_toArray, List.set_cons_zero, List.set_cons_succ]
  clear hK'
  refine lin_take (v := ?_) (by kernel_rfl) (by kernel_rfl) (fun _ _ _ h => hQ _ _ _ _ (by rfl) h) (Or.inl ⟨by rfl, ?_⟩) (by assumption) ?_; (rotate_left; (intro wS hSw; (try dsimp only at hSw); (try go_simp); (try with_reducible rfl)); rotate_left); simp only [Act.put, List.setIfInBounds_toArray, List.set_cons_zero, List.set_cons_succ]
  refine lin_take (v := ?_) (by kernel_rfl) (by kernel_rfl) (fun _ _ _ h => hQ _ _ _ _ (by rfl) h) (Or.inl ⟨by rfl, ?_⟩) (by assumption) ?_; (rotate_left; (intro wS hSw; (try dsimp only at hSw); (try go_simp); (try with_reducible rfl)); rotate_left); simp only [Act.put, List.setIfInBounds_toArray, List.set_cons_zero, List.set_cons_succ]
  refine lin_take (v := ?_) (by kernel_rfl) (by kernel_rfl) (fun _ _ _ h => hQ _ _ _ _ (by rfl) h) (Or.inl ⟨by rfl, ?_⟩) (by assumption) ?_; (rotate_left; (intro wS hSw; (try dsimp only at hSw); (try go_simp); (try with_reducible rfl)); rotate_left); simp only [Act.put, List.setIfInBounds_toArray, List.set_cons_zero, List.set_cons_succ]
  refine lin_take (v := ?_) (by kernel_rfl) (by kernel_rfl) (fun _ _ _ h => hQ _ _ _ _ (by rfl) h) (Or.inl ⟨by rfl, ?_⟩) (by assumption) ?_; (rotate_left; (intro wS hSw; (try dsimp only at hSw); (try go_simp); (try with_reducible rfl)); rotate_left); simp only [Act.put, List.setIfInBounds_toArray, List.set_cons_zero, List.set_cons_succ]
  refine lin_take (v := ?_) (by kernel_rfl) (by kernel_rfl) (fun _ _ _ h => hQ _ _ _ _ (by rfl) h) (Or.inl ⟨by rfl, ?_⟩) (by assumption) ?_; (rotate_left; (intro wS hSw; (try dsimp only at hSw); (try go_simp); (try with_reducible rfl)); rotate_left); simp only [Act.put, List.setIfInBounds_toArray, List.set_cons_zero, List.set_cons_succ]
  refine lin_done (by kernel_rfl) ?_
  clear hHeld hS3 h7 h8
  obtain ⟨m2, hm2⟩ : ∃ z, m.set ix now = z := ⟨_, rfl⟩
  have hm2l : m2.length = 61 := by rw [← hm2, List.length_set]; exact hml.out
  obtain ⟨y1, -, -, -, -⟩ := hS4
  have f1 : w6.frozen? ⟨g3, o3 + ix, none⟩ = false := by
    have hr6 : Row w6 3 1 (.slice (some ⟨g3, o3, none⟩) 61 mc) 61 (m.map (.int .i64)) := h9.row 6 (by show some (mRow _ _) = _; unfold mRow; rw [hml.out])
    have := hr6.free (j := ix) (by omega)
    rwa [Addr.add_lit] at this
  have hA : Own w (w6.setCell ⟨g3, o3 + ix, none⟩ (.int .i64 now)) (storeA g sb m :: (As K) :: CB pb qb rb kb fb Rv Pv F (.slice (some ⟨g3, o3, none⟩) 61 mc) m2 (ex ++ [cellsA sb2 #[.int .i64 3, .int .i64 it, .int .i64 n] 79])) := CB.mset h9 hml.out now m2 hm2
  clear h9
  replace hA := Lib.hid hA
  replace hm2l := Lib.hid hm2l
  go_upto_region 32 with fail
  clear y1 f1
  generalize w6.setCell ⟨g3, o3 + ix, none⟩ (.int .i64 now) = u7 at *
  have ST := Lib.hid (own_store hA.out 0 rfl (k := ix) (by rw [hml.out]; omega) now m2 hm2)
  clear hm2 hX
  go_wp2_with (go_at_call 42; refine ST.out.mono ?_; rintro e w8 ⟨rfl, hB⟩; replace hB := Lib.hid hB)
  replace hB : Own w w8 (storeA g sb m2 :: (As K) :: CB pb qb rb kb fb Rv Pv F (.slice (some ⟨g3, o3, none⟩) 61 mc) m2 (ex ++ [cellsA sb2 #[.int .i64 3, .int .i64 it, .int .i64 n] 79])) := hB.out
  refine hK.out _ _ _ _ _ _ _ _ _ _ _ _ _ _ _ _ _ _ _ _ _ _ _ _ _ _ _ _ _ _ _ _ _ _ _ _ _ _ _ _ _ _ _ _ _ _ _ _ _ _ _ _ _ _ _ _ _ _ _ _ _ _ _ _ _ _ _ _ _ _ _ _ _ _ _ _ _ _ _ _ _ _ _ _ _ _ _ _ _ _ _ _ _ _ _ _ _ _ _ _ _ _ _ _ _ _ _ _ _ _ _ _ _ _ _ _ _ _ _ _ _ _ _ _ _ _ _ _ _ _ _ _ _ _ _ _ _ _ _ _ _ _ _ _ _ _ _ _ _ _ _ _ _ _ _ _ _ _ _ _ _ _ _ _ _ _ _ _ _ _ _ _ _ _ _ _ _ _ _ _ _ _ _ _ _ _ _ _ _ _ _ _ _ _ _ _ _ _ _ ?_
  exact ⟨some ⟨g3, o3, none⟩, mc, m2, Rv, Pv, F, _, rfl, hm2l.out, (fun _ _ => rfl), (fun _ _ => rfl), (fun _ _ => rfl), hcw, CB.unbox hB⟩
end Go.Proofs.Ytooofpplhedgcaa
