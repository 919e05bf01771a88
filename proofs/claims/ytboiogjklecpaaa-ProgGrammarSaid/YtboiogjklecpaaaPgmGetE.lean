/- prog.Get: its label 'end'. -/
import Derived.Test.YtboiogjklecpaaaPgmGet
set_option linter.unusedVariables false
set_option linter.unusedSimpArgs false
namespace Go.Proofs.Ytboiogjklecpaaa
open Go.RowKit
set_option maxRecDepth 100000
set_option maxHeartbeats 8000000
theorem pg_end (s : List UInt8) (w : World) (n : Nat) (mem : Int) (hd : HeadOk s n mem) (hs : s.length ≤ 20000) (hn : n ≤ 16) (act : Act) (w1 : World) (Q : Exit → Act → World → Prop) (hpan : ∀ c (a : Act) d v w, Q (.panic c) (a.put d v) w → Q (.panic c) a w)
    (hret : ∀ a' w', bodyPost Try.prog Try.f32 (PRet s w) .ret a' w' → Q .ret a' w')
    (hJ : PJ0 s w n mem act w1) : (behind (codeOf Try.f32) 0).wp Try.prog Q act w1 := by
  replace hret := Lib.hid hret
  obtain ⟨at_, rb, pb, nb, ps, oa, oc, ⟨hdf, hsz, f0, f2, f3, f4, f5, f7, f8⟩, hat, hps, hR, hO⟩ := hJ
  rw [hps] at hO
  replace hps := Lib.hid hps
  obtain ⟨y0, y1⟩ := And.intro (cells2f 0 hO rfl).1.1 (cells2f 0 hO rfl).2.1
  obtain ⟨n0, n1⟩ := And.intro (cells2f 1 hO rfl).1.1 (cells2f 1 hO rfl).2.1
  obtain ⟨⟨r0, r0f⟩, ⟨r1, r1f⟩⟩ := cells2f 2 hO rfl
  obtain ⟨u, rfl⟩ := frame127 act hsz hdf
  clear hdf hsz
  replace f0 : u 0 = .string ⟨s.toArray⟩ := f0
  replace f2 : u 2 = .pointer (some ⟨rb, 0, none⟩) := f2
  replace f3 : u 3 = .int .i64 0 := f3
  replace f4 : u 4 = .pointer (some ⟨pb, 0, none⟩) := f4
  replace f5 : u 5 = .pointer (some ⟨nb, 0, none⟩) := f5
  replace f7 : u 7 = .int .i64 at_ := f7
  replace f8 : u 8 = .int .i64 n := f8
  rw [f0, f2, f3, f4, f5, f7, f8]
  clear f0 f2 f3 f4 f5 f7 f8
  dsimp only [behind, findLabel, codeOf, Try.f32]
  by_cases hlt : at_ < s.length
  · have hG : getP s = .error 2 := by
      rw [hd.res, hR.out, endP]
      rw [if_pos (by intro h; have := congrArg List.length h; simp at this; omega)]
    replace hG := Lib.hid hG
    have hlti : (at_ : Int) < s.length := by omega
    go_wp2
    have hZ := ((hO.cset 2 rfl 0 (.int .i64 0)).cset 2 rfl 1 (.slice none 0 0)).sel [2] (by decide)
    generalize (w1.setCell ⟨rb, 0, none⟩ (.int .i64 0)).setCell ⟨rb, 1, none⟩ (.slice none 0 0) = wz at *
    have hZ2 : Own w wz [cellsA rb #[.int .i64 0, .slice none 0 0] 42] := hZ
    obtain ⟨p0, p1⟩ := And.intro (cells2f 0 hZ2 rfl).1.1 (cells2f 0 hZ2 rfl).2.1
    exact hret.out _ _ (bodyPost_ret (v := .tuple #[.agg #[.int .i64 0, .slice none 0 0], .int .i64 2]) (by simp [results, Try.results32, go_sem, p0, p1]) rfl (pret_err hG.out hZ2.below))
  · have hlti : ¬ (at_ : Int) < s.length := by omega
    have hL : LiesF w1 oa oc (ps.map (·.2)) := liesF_of (hO.row 3 rfl) (hO.at 4 rfl) hps.out.symm
    have hG0 : getP s = if checkP mem (ps.map (·.2)) ≠ 0 then .error (checkP mem (ps.map (·.2))) else .ok (mem, ps.map (·.2)) := by
      rw [hd.res, hR.out, endP]
      rw [if_neg (by simp; omega)]
    obtain ⟨E, hE⟩ : ∃ E, checkP mem (ps.map (·.2)) = E := ⟨_, rfl⟩
    have C := pcheck_any mem (ps.map (·.2)) oa oc w1 hL
    rw [hE] at C hG0
    rw [List.length_map, hps.out] at C
    replace C := Lib.hid C
    replace hE := Lib.hid hE
    go_wp2_with fail
    go_at_call 33
    refine C.out.mono ?_
    rintro e w2 ⟨rfl, hb2⟩
    have hO2 := hO.grow hb2
    clear y0 y1 n0 n1 r0 r0f r1 r1f hO hL
    obtain ⟨y0, y1⟩ := And.intro (cells2f 0 hO2 rfl).1.1 (cells2f 0 hO2 rfl).2.1
    obtain ⟨n0, n1⟩ := And.intro (cells2f 1 hO2 rfl).1.1 (cells2f 1 hO2 rfl).2.1
    obtain ⟨⟨r0, r0f⟩, ⟨r1, r1f⟩⟩ := cells2f 2 hO2 rfl
    by_cases hE0 : E = 0
    · subst hE0
      have hG : getP s = .ok (mem, ps.map (·.2)) := by rw [hG0]; simp
      replace hG := Lib.hid hG
      clear hG0
      go_wp2
      have hZ := ((hO2.cset 2 rfl 0 (.int .i64 mem)).cset 2 rfl 1 (.slice oa n oc)).sel [2, 3, 4] (by decide)
      generalize (w2.setCell ⟨rb, 0, none⟩ (.int .i64 mem)).setCell ⟨rb, 1, none⟩ (.slice oa n oc) = wz at *
      have hZ2 : Own w wz [cellsA rb #[.int .i64 mem, .slice oa n oc] 42, rowA 52 1 (.slice oa n oc) n (ps.map hdr), doneA ps] := hZ
      obtain ⟨p0, p1⟩ := And.intro (cells2f 0 hZ2 rfl).1.1 (cells2f 0 hZ2 rfl).2.1
      exact hret.out _ _ (bodyPost_ret (v := .tuple #[.agg #[.int .i64 mem, .slice oa n oc], .int .i64 0]) (by simp [results, Try.results32, go_sem, p0, p1]) rfl (by
        unfold PRet
        rw [hG.out]
        exact ⟨oa, oc, by simp [resF, resE, hps.out], liesF_of (hZ2.row 1 rfl) (hZ2.at 2 rfl) hps.out.symm, hZ2.below⟩))
    · have hne : (E != 0) = true := by simpa using hE0
      have hG : getP s = .error E := by rw [hG0, if_pos hE0]
      replace hG := Lib.hid hG
      clear hG0
      go_wp2
      have hZ := ((hO2.cset 2 rfl 0 (.int .i64 0)).cset 2 rfl 1 (.slice none 0 0)).sel [2] (by decide)
      generalize (w2.setCell ⟨rb, 0, none⟩ (.int .i64 0)).setCell ⟨rb, 1, none⟩ (.slice none 0 0) = wz at *
      have hZ2 : Own w wz [cellsA rb #[.int .i64 0, .slice none 0 0] 42] := hZ
      obtain ⟨p0, p1⟩ := And.intro (cells2f 0 hZ2 rfl).1.1 (cells2f 0 hZ2 rfl).2.1
      exact hret.out _ _ (bodyPost_ret (v := .tuple #[.agg #[.int .i64 0, .slice none 0 0], .int .i64 E]) (by simp [results, Try.results32, go_sem, p0, p1]) rfl (pret_err hG.out hZ2.below))
end Go.Proofs.Ytboiogjklecpaaa
