/- prog.Get: its labels 'next'. -/
import Derived.Test.YtboiogjklecpaaaPgmGet
set_option linter.unusedVariables false
set_option linter.unusedSimpArgs false
namespace Go.Proofs.Ytboiogjklecpaaa
open Go.RowKit
set_option maxRecDepth 100000
set_option maxHeartbeats 8000000
theorem pg_one (s : List UInt8) (w : World) (n : Nat) (mem : Int) (hd : HeadOk s n mem) (hs : s.length ≤ 20000) (hn : n ≤ 16) (at_ : Nat) (act : Act) (w1 : World) (Q : Exit → Act → World → Prop) (hpan : ∀ c (a : Act) d v w, Q (.panic c) (a.put d v) w → Q (.panic c) a w)
    (h0 : ∀ a' w', PJ0 s w n mem a' w' → Q (.goto 0) a' w') (h1 : ∀ t a' w', at_ < t → PJ1 s w n mem t a' w' → Q (.goto 1) a' w') (h2 : ∀ t a' w', at_ < t → PJ2 s w n mem t a' w' → Q (.goto 2) a' w') (hret : ∀ a' w', bodyPost Try.prog Try.f32 (PRet s w) .ret a' w' → Q .ret a' w')
    (hJ : PJ1 s w n mem at_ act w1) : (behind (codeOf Try.f32) 1).wp Try.prog Q act w1 := by
  obtain ⟨i2, hi2, hq0, hq1', hq2'⟩ := info_parts' Try.infoInsS
  replace hret := Lib.hid hret
  obtain ⟨rb, pb, nb, ps, oa, oc, ⟨hdf, hsz, f0, f2, f3, f4, f5, f7, f8⟩, hat, hps, hR, hO⟩ := hJ
  obtain ⟨y0, y1⟩ := And.intro (cells2f 0 hO rfl).1.1 (cells2f 0 hO rfl).2.1
  obtain ⟨n0, n1⟩ := And.intro (cells2f 1 hO rfl).1.1 (cells2f 1 hO rfl).2.1
  obtain ⟨⟨r0, r0f⟩, ⟨r1, r1f⟩⟩ := cells2f 2 hO rfl
  obtain ⟨u, rfl⟩ := frame127 act hsz hdf
  clear hdf hsz
  replace f0 : u 0 = .string ⟨s.toArray⟩ := f0
  replace f2 : u 2 = .pointer (some ⟨rb, 0, none⟩) := f2
  replace f3 : u 3 = .int .i64 0 := f3
  replace f4 : u 4 = .pointer (some ⟨pb, 0, none⟩) := f4
  replace f5 : u 5 = .pointer (some ⟨nb, 0, none⟩) := f5
  replace f7 : u 7 = .int .i64 at_ := f7
  replace f8 : u 8 = .int .i64 n := f8
  rw [f0, f2, f3, f4, f5, f7, f8]
  clear f0 f2 f3 f4 f5 f7 f8
  dsimp only [behind, findLabel, codeOf, Try.f32]
  by_cases hpn : ps.length = n
  · have hpi : (((ps.length : Nat) : Int) == n) = true := by rw [beq_iff_eq]; omega
    subst hpn
    go_wp2
    go_step3
    refine h0 _ _ ⟨at_, rb, pb, nb, ps, oa, oc, ⟨rfl, rfl, rfl, rfl, rfl, rfl, rfl, rfl, rfl⟩, hat, rfl, Lib.hid ?_, hO⟩
    rw [← hR.out, Nat.sub_self, getFs]
  · have hpi : (((ps.length : Nat) : Int) == n) = false := by rw [beq_eq_false_iff_ne]; omega
    obtain ⟨m, hm⟩ : ∃ m, n - ps.length = m + 1 := ⟨n - ps.length - 1, by omega⟩
    have hR2 := hR.out
    rw [hm, getFs_next] at hR2
    have hdl : (s.drop at_).length = s.length - at_ := List.length_drop
    by_cases h4 : s.length - at_ < 2
    · have hG : getP s = .error 1 := by
        rw [hd.res, ← hR2, if_pos (by omega)]
        rfl
      replace hG := Lib.hid hG
      have h4i : ((s.length : Int) - at_) < 2 := by omega
      clear hdl hR2
      go_wp2
      have hZ := ((hO.cset 2 rfl 0 (.int .i64 0)).cset 2 rfl 1 (.slice none 0 0)).sel [2] (by decide)
      generalize (w1.setCell ⟨rb, 0, none⟩ (.int .i64 0)).setCell ⟨rb, 1, none⟩ (.slice none 0 0) = wz at *
      have hZ2 : Own w wz [cellsA rb #[.int .i64 0, .slice none 0 0] 42] := hZ
      obtain ⟨p0, p1⟩ := And.intro (cells2f 0 hZ2 rfl).1.1 (cells2f 0 hZ2 rfl).2.1
      exact hret.out _ _ (bodyPost_ret (v := .tuple #[.agg #[.int .i64 0, .slice none 0 0], .int .i64 1]) (by simp [results, Try.results32, go_sem, p0, p1]) rfl (pret_err hG.out hZ2.below))
    · have h4i : ¬ ((s.length : Int) - at_) < 2 := by omega
      rw [if_neg (by omega), List.drop_drop] at hR2
      obtain ⟨left, hleft⟩ : ∃ left : Nat, ofB ((s.drop at_).take 2) = left := ⟨(ofB ((s.drop at_).take 2)).toNat, by have := (ofB_bd ((s.drop at_).take 2)).1; omega⟩
      rw [hleft] at hR2
      rw [Int.toNat_natCast] at hR2
      have hx : (⟨s.toArray⟩ : ByteArray).extract at_ s.length = ⟨(s.drop at_).toArray⟩ := cut_at
      have hsl : (s.drop at_).length ≤ 100000 := by omega
      have hs2 : 2 ≤ (s.drop at_).length := by omega
      obtain ⟨E, hE⟩ : ∃ E, manyP left 200 = E := ⟨_, rfl⟩
      have M := fun w => many_any left 200 w
      rw [hE] at M hR2
      replace M := Lib.hid M
      replace hR2 := Lib.hid hR2
      replace hE := Lib.hid hE
      clear hdl
      generalize hS : s.drop at_ = S at *
      go_wp2_with fail
      try rw [hx]
      go_at_call 55
      refine (own_cut hO S).mono ?_
      rintro e w2 ⟨cb, rfl, hO2⟩
      clear hO hx y0 y1 n0 n1 r0 r0f r1 r1f
      go_wp2_with fail
      go_at_call 56
      refine (own_num hO2 5 rfl 2 2 (by decide) hs2 hsl left hleft (S.drop 2) rfl).mono ?_
      rintro e w3 ⟨rfl, hO3⟩
      clear hO2
      have hO4 := hO3.sel [0, 1, 2, 3, 4] (by decide)
      replace hO4 : Own w w3 [cellsA pb #[.int .i64 mem, .slice oa ps.length oc] 42, cellsA nb #[.int .i64 0, .slice none 0 0] 42, cellsA rb #[.int .i64 0, .slice none 0 0] 42, rowA 52 1 (.slice oa ps.length oc) ps.length (ps.map hdr), doneA ps] := hO4
      clear hO3
      obtain ⟨y0, y1⟩ := And.intro (cells2f 0 hO4 rfl).1.1 (cells2f 0 hO4 rfl).2.1
      obtain ⟨n0, n1⟩ := And.intro (cells2f 1 hO4 rfl).1.1 (cells2f 1 hO4 rfl).2.1
      obtain ⟨⟨r0, r0f⟩, ⟨r1, r1f⟩⟩ := cells2f 2 hO4 rfl
      by_cases hE0 : E = 0
      · subst hE0
        have hlm := many_ok.1 hE.out
        go_upto_region 20 with (go_at_call 64; refine (M.out _).mono ?_; rintro e w4 ⟨rfl, rfl⟩)
        go_wp2_with (at_builtin; refine wpList_append_lit' _ rfl _ _ 40 rfl 52 i2 (.slice none 0 0) 1 24 Try.underlying40 hi2 hq0 hq1' hq2' rfl (by decide) (.slice oa ps.length oc) ps.length (ps.map hdr) rfl (hO4.row 3 rfl) _ _ 1 _ rfl rfl rfl ?c1 ?b1 ?b2 ?_)
        case c1 => simp [Value.oneCell']
        case b1 => unfold maxLen; omega
        case b2 => omega
        intro ao2 cap2 w5 hr2 ht2 hf2
        have hO5 := hO4.move 3 rfl (Moves.of_append hr2 ht2 hf2)
        clear hO4 hr2 ht2 hf2 y0 y1 n0 n1 r0 r0f r1 r1f
        obtain ⟨⟨y0, y0f⟩, ⟨y1, y1f⟩⟩ := cells2f 0 hO5 rfl
        go_wp2
        go_step3
        rename_i K hK
        have hO6 := (hO5.cset 0 rfl 1 (.slice ao2 (ps.length + 1) cap2)).push (Below.refl _ _) (rowA 30 4 (.slice none 0 0) 0 (insL [])) (Row.nil _ _ _) (by rintro k ⟨⟩)
        have T := fun act w6 hJ => pg_two s w n mem hd hs hn (at_ + 2) act w6 Q hpan (fun a' w' h => h1 _ a' w' (by omega) h) (fun t a' w' ht h => h2 t a' w' (by omega) h) hret.out hJ
        refine hK _ _ (T _ _ ?_)
        refine ⟨rb, pb, nb, left, ps, ao2, cap2, [], none, 0, ⟨rfl, rfl, rfl, rfl, rfl, rfl, rfl, rfl, rfl, rfl⟩, by omega, by omega, by simp; omega, Lib.hid ?_, hO6⟩
        rw [show n - ps.length - 1 = m by omega, ← hR2.out, if_neg (by simp)]
      · have hne : (E != 0) = true := by simpa using hE0
        have hG : getP s = .error E := by
          rw [hd.res, ← hR2.out, if_pos hE0]
          rfl
        replace hG := Lib.hid hG
        go_wp2_with (go_at_call 64; refine (M.out _).mono ?_; rintro e w4 ⟨rfl, rfl⟩)
        have hZ := ((hO4.cset 2 rfl 0 (.int .i64 0)).cset 2 rfl 1 (.slice none 0 0)).sel [2] (by decide)
        generalize (w3.setCell ⟨rb, 0, none⟩ (.int .i64 0)).setCell ⟨rb, 1, none⟩ (.slice none 0 0) = wz at *
        have hZ2 : Own w wz [cellsA rb #[.int .i64 0, .slice none 0 0] 42] := hZ
        obtain ⟨p0, p1⟩ := And.intro (cells2f 0 hZ2 rfl).1.1 (cells2f 0 hZ2 rfl).2.1
        exact hret.out _ _ (bodyPost_ret (v := .tuple #[.agg #[.int .i64 0, .slice none 0 0], .int .i64 E]) (by simp [results, Try.results32, go_sem, p0, p1]) rfl (pret_err hG.out hZ2.below))
end Go.Proofs.Ytboiogjklecpaaa
