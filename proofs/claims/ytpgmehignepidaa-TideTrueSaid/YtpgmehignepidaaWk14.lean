/- Walks, part Wk14. -/
import Derived.Test.YtpgmehignepidaaWk13
set_option linter.all false
namespace Go.Proofs.Ytpgmehignepidaa
open Go Bx
/-- barrage/tide.Levels -/
theorem c_LevelsP {t : Table} {cs : List Value} {a n : Int} {w0 : World} (ht : RTable w0 cs t) (hn : n ≠ 0) : CE Try.prog 34 #[.agg cs.toArray, .int .i64 a, .int .i64 n] w0 (fun v w' => ∃ sv, v = .tuple #[sv, .int .i64 (levelsE t a n)] ∧ St w0 w' [rowI sv 38 2 (levelsF t a n).length ((levelsF t a n).flatMap spanC)]) := by
  obtain ⟨cv, rfl, hmean, hsl⟩ := id ht
  obtain ⟨aa, cap, rfl, hcap, hmx, hel⟩ := id hsl
  refine enter Try.func34 rfl Try.ntmps34 rfl ?_
  have hS := St.start w0
  refine seq ?_
  refine region ?_
  refine sbox hS rfl rfl ?_; clear hS; intro b3 w hS
  refine sv (yAsg rfl) ?_
  refine sv (yAsg rfl) ?_
  refine nil ?_
  show Code.wp _ _ _ _ _
  refine seq ?_
  refine region ?_
  refine sv (yLdBA rfl Try.isAgg24 Try.sizeOf24 (hS.at _) rfl rfl) ?_
  refine scall Try.call19 (.cons rfl .nil) (c_Check (ht.ext hS.ext)) ?_
  rintro _ w ⟨rfl, hE⟩; replace hS := hS.step hE; clear hE
  refine sv (yMove rfl) ?_
  refine sv (yExt rfl rfl) ?_
  refine sv (yExt rfl rfl) ?_
  refine sv (yAsg rfl) ?_
  refine sv (yAsg rfl) ?_
  refine nil ?_
  show Code.wp _ _ _ _ _
  refine seq ?_
  refine seq ?_
  refine region ?_
  refine sv (yMove rfl) ?_
  refine sv (yEql rfl rfl) ?_
  refine nil ?_
  show Code.wp _ _ _ _ _
  refine cond rfl (fun c16 => ?_) (fun c16 => ?_)
  ·
    simp only [Bool.and_eq_true, Bool.or_eq_true, Bool.and_eq_false_iff, Bool.or_eq_false_iff, decide_eq_true_eq, decide_eq_false_iff_not, Bool.not_eq_true, Bool.not_eq_false, Bool.not_not, Bool.not_eq_eq_eq_not, Bool.not_true, Bool.not_false, Bool.false_eq_true, Bool.true_eq_false, ne_eq, Decidable.not_not, not_false_eq_true, not_true_eq_false] at c16
    have hE := levelsE_good (a := a) (n := n) c16
    refine region ?_
    refine sv (yMove rfl) ?_
    refine sv (yMove rfl) ?_
    refine scall Try.call74 (.cons rfl (.cons rfl .nil)) c_some ?_
    rintro _ w ⟨rfl, hE⟩; replace hS := hS.step hE; clear hE
    refine sv (yAsg rfl) ?_
    refine nil ?_
    show Code.wp _ _ _ _ _
    refine seq ?_
    refine seq ?_
    refine region ?_
    refine sv (yMove rfl) ?_
    refine sv (yNeq rfl rfl) ?_
    refine nil ?_
    show Code.wp _ _ _ _ _
    refine cond rfl (fun c21 => ?_) (fun c21 => ?_)
    ·
      simp only [Bool.and_eq_true, Bool.or_eq_true, Bool.and_eq_false_iff, Bool.or_eq_false_iff, decide_eq_true_eq, decide_eq_false_iff_not, Bool.not_eq_true, Bool.not_eq_false, Bool.not_not, Bool.not_eq_eq_eq_not, Bool.not_true, Bool.not_false, Bool.false_eq_true, Bool.true_eq_false, ne_eq, Decidable.not_not, not_false_eq_true, not_true_eq_false] at c21
      refine seq ?_
      refine region ?_
      refine sv (yMove rfl) ?_
      refine sv (yAsg rfl) ?_
      refine sv (yAsg rfl) ?_
      refine nil ?_
      show Code.wp _ _ _ _ _
      refine wp_ret (thenR ?_)
      refine retQ (res2 rfl rfl rfl) ?_
      refine ⟨.slice none 0 0, by rw [hE]; rfl, ?_⟩
      rw [levelsF_bad (by rw [hE]; exact c21)]
      exact (hS.sub (List.nil_sublist _)).nilrow 38 2
    ·
      simp only [Bool.and_eq_true, Bool.or_eq_true, Bool.and_eq_false_iff, Bool.or_eq_false_iff, decide_eq_true_eq, decide_eq_false_iff_not, Bool.not_eq_true, Bool.not_eq_false, Bool.not_not, Bool.not_eq_eq_eq_not, Bool.not_true, Bool.not_false, Bool.false_eq_true, Bool.true_eq_false, ne_eq, Decidable.not_not, not_false_eq_true, not_true_eq_false] at c21
      have hok := tableOk_of c16
      have hz := hE.trans c21
      obtain ⟨_, hz2, hz3⟩ := levelsE_zero hz
      obtain ⟨m, rfl⟩ := Int.eq_ofNat_of_zero_le hz2.1
      refine skip ?_
      show Code.wp _ _ _ _ _
      refine seq ?_
      refine region ?_
      refine sv (yLdBA rfl Try.isAgg24 Try.sizeOf24 (hS.at _) rfl rfl) ?_
      refine sv (yMove rfl) ?_
      refine sv (yMove rfl) ?_
      refine scall Try.call71 (.cons rfl (.cons rfl (.cons rfl .nil))) (c_levels (n := m) (hsl.ext RConst.stays hS.ext) hok (hz3 hn).1 (by omega)) ?_
      rintro v w hM; replace hS := hS.call1 hM; clear hM
      refine sv (yAsg rfl) ?_
      refine sv (yAsg rfl) ?_
      refine nil ?_
      show Code.wp _ _ _ _ _
      refine wp_ret ?_
      refine retQ (res2 rfl rfl rfl) ?_
      refine ⟨v, by rw [hz]; rfl, ?_⟩
      rw [levelsF_good hz, show (lvlsL t a (m : Int).toNat).length = m from lvlsL_len t a m]
      exact hS.sub (.cons_cons _ (List.nil_sublist _))
  ·
    simp only [Bool.and_eq_true, Bool.or_eq_true, Bool.and_eq_false_iff, Bool.or_eq_false_iff, decide_eq_true_eq, decide_eq_false_iff_not, Bool.not_eq_true, Bool.not_eq_false, Bool.not_not, Bool.not_eq_eq_eq_not, Bool.not_true, Bool.not_false, Bool.false_eq_true, Bool.true_eq_false, ne_eq, Decidable.not_not, not_false_eq_true, not_true_eq_false] at c16
    have hE := levelsE_bad (a := a) (n := n) c16
    refine skip ?_
    show Code.wp _ _ _ _ _
    refine seq ?_
    refine seq ?_
    refine region ?_
    refine sv (yMove rfl) ?_
    refine sv (yNeq rfl rfl) ?_
    refine nil ?_
    show Code.wp _ _ _ _ _
    refine cond rfl (fun c21 => ?_) (fun c21 => ?_)
    ·
      simp only [Bool.and_eq_true, Bool.or_eq_true, Bool.and_eq_false_iff, Bool.or_eq_false_iff, decide_eq_true_eq, decide_eq_false_iff_not, Bool.not_eq_true, Bool.not_eq_false, Bool.not_not, Bool.not_eq_eq_eq_not, Bool.not_true, Bool.not_false, Bool.false_eq_true, Bool.true_eq_false, ne_eq, Decidable.not_not, not_false_eq_true, not_true_eq_false] at c21
      refine seq ?_
      refine region ?_
      refine sv (yMove rfl) ?_
      refine sv (yAsg rfl) ?_
      refine sv (yAsg rfl) ?_
      refine nil ?_
      show Code.wp _ _ _ _ _
      refine wp_ret (thenR ?_)
      refine retQ (res2 rfl rfl rfl) ?_
      refine ⟨.slice none 0 0, by rw [hE]; rfl, ?_⟩
      rw [levelsF_bad (by rw [hE]; exact c21)]
      exact (hS.sub (List.nil_sublist _)).nilrow 38 2
    ·
      simp only [Bool.and_eq_true, Bool.or_eq_true, Bool.and_eq_false_iff, Bool.or_eq_false_iff, decide_eq_true_eq, decide_eq_false_iff_not, Bool.not_eq_true, Bool.not_eq_false, Bool.not_not, Bool.not_eq_eq_eq_not, Bool.not_true, Bool.not_false, Bool.false_eq_true, Bool.true_eq_false, ne_eq, Decidable.not_not, not_false_eq_true, not_true_eq_false] at c21
      exact absurd c21 c16
/-- barrage/tide.Levels -/
theorem c_Levels0 {t : Table} {cs : List Value} {a n : Int} {w0 : World} (ht : RTable w0 cs t) : CE Try.prog 34 #[.agg cs.toArray, .int .i64 a, .int .i64 0] w0 (fun v w' => ∃ sv, v = .tuple #[sv, .int .i64 (levelsE t a 0)] ∧ St w0 w' [rowI sv 38 2 (levelsF t a 0).length ((levelsF t a 0).flatMap spanC)]) := by
  obtain ⟨cv, rfl, hmean, hsl⟩ := id ht
  obtain ⟨aa, cap, rfl, hcap, hmx, hel⟩ := id hsl
  refine enter Try.func34 rfl Try.ntmps34 rfl ?_
  have hS := St.start w0
  refine seq ?_
  refine region ?_
  refine sbox hS rfl rfl ?_; clear hS; intro b3 w hS
  refine sv (yAsg rfl) ?_
  refine sv (yAsg rfl) ?_
  refine nil ?_
  show Code.wp _ _ _ _ _
  refine seq ?_
  refine region ?_
  refine sv (yLdBA rfl Try.isAgg24 Try.sizeOf24 (hS.at _) rfl rfl) ?_
  refine scall Try.call19 (.cons rfl .nil) (c_Check (ht.ext hS.ext)) ?_
  rintro _ w ⟨rfl, hE⟩; replace hS := hS.step hE; clear hE
  refine sv (yMove rfl) ?_
  refine sv (yExt rfl rfl) ?_
  refine sv (yExt rfl rfl) ?_
  refine sv (yAsg rfl) ?_
  refine sv (yAsg rfl) ?_
  refine nil ?_
  show Code.wp _ _ _ _ _
  refine seq ?_
  refine seq ?_
  refine region ?_
  refine sv (yMove rfl) ?_
  refine sv (yEql rfl rfl) ?_
  refine nil ?_
  show Code.wp _ _ _ _ _
  refine cond rfl (fun c16 => ?_) (fun c16 => ?_)
  ·
    simp only [Bool.and_eq_true, Bool.or_eq_true, Bool.and_eq_false_iff, Bool.or_eq_false_iff, decide_eq_true_eq, decide_eq_false_iff_not, Bool.not_eq_true, Bool.not_eq_false, Bool.not_not, Bool.not_eq_eq_eq_not, Bool.not_true, Bool.not_false, Bool.false_eq_true, Bool.true_eq_false, ne_eq, Decidable.not_not, not_false_eq_true, not_true_eq_false] at c16
    have hE := levelsE_good (a := a) (n := 0) c16
    refine region ?_
    refine sv (yMove rfl) ?_
    refine sv (yMove rfl) ?_
    refine scall Try.call74 (.cons rfl (.cons rfl .nil)) c_some ?_
    rintro _ w ⟨rfl, hE⟩; replace hS := hS.step hE; clear hE
    refine sv (yAsg rfl) ?_
    refine nil ?_
    show Code.wp _ _ _ _ _
    refine seq ?_
    refine seq ?_
    refine region ?_
    refine sv (yMove rfl) ?_
    refine sv (yNeq rfl rfl) ?_
    refine nil ?_
    show Code.wp _ _ _ _ _
    refine cond rfl (fun c21 => ?_) (fun c21 => ?_)
    ·
      simp only [Bool.and_eq_true, Bool.or_eq_true, Bool.and_eq_false_iff, Bool.or_eq_false_iff, decide_eq_true_eq, decide_eq_false_iff_not, Bool.not_eq_true, Bool.not_eq_false, Bool.not_not, Bool.not_eq_eq_eq_not, Bool.not_true, Bool.not_false, Bool.false_eq_true, Bool.true_eq_false, ne_eq, Decidable.not_not, not_false_eq_true, not_true_eq_false] at c21
      refine seq ?_
      refine region ?_
      refine sv (yMove rfl) ?_
      refine sv (yAsg rfl) ?_
      refine sv (yAsg rfl) ?_
      refine nil ?_
      show Code.wp _ _ _ _ _
      refine wp_ret (thenR ?_)
      refine retQ (res2 rfl rfl rfl) ?_
      refine ⟨.slice none 0 0, by rw [hE]; rfl, ?_⟩
      rw [levelsF_bad (by rw [hE]; exact c21)]
      exact (hS.sub (List.nil_sublist _)).nilrow 38 2
    ·
      simp only [Bool.and_eq_true, Bool.or_eq_true, Bool.and_eq_false_iff, Bool.or_eq_false_iff, decide_eq_true_eq, decide_eq_false_iff_not, Bool.not_eq_true, Bool.not_eq_false, Bool.not_not, Bool.not_eq_eq_eq_not, Bool.not_true, Bool.not_false, Bool.false_eq_true, Bool.true_eq_false, ne_eq, Decidable.not_not, not_false_eq_true, not_true_eq_false] at c21
      have hok := tableOk_of c16
      have hz := hE.trans c21
      obtain ⟨_, hz2, hz3⟩ := levelsE_zero hz
      refine skip ?_
      show Code.wp _ _ _ _ _
      refine seq ?_
      refine region ?_
      refine sv (yLdBA rfl Try.isAgg24 Try.sizeOf24 (hS.at _) rfl rfl) ?_
      refine sv (yMove rfl) ?_
      refine sv (yMove rfl) ?_
      refine scall Try.call71 (.cons rfl (.cons rfl (.cons rfl .nil))) (c_levels0 (hsl.ext RConst.stays hS.ext) hok) ?_
      rintro _ w ⟨rfl, hE⟩; replace hS := hS.step hE; clear hE
      refine sv (yAsg rfl) ?_
      refine sv (yAsg rfl) ?_
      refine nil ?_
      show Code.wp _ _ _ _ _
      refine wp_ret ?_
      refine retQ (res2 rfl rfl rfl) ?_
      refine ⟨.slice none 0 0, by rw [hz]; rfl, ?_⟩
      rw [levelsF_good hz]
      exact (hS.sub (List.nil_sublist _)).nilrow 38 2
  ·
    simp only [Bool.and_eq_true, Bool.or_eq_true, Bool.and_eq_false_iff, Bool.or_eq_false_iff, decide_eq_true_eq, decide_eq_false_iff_not, Bool.not_eq_true, Bool.not_eq_false, Bool.not_not, Bool.not_eq_eq_eq_not, Bool.not_true, Bool.not_false, Bool.false_eq_true, Bool.true_eq_false, ne_eq, Decidable.not_not, not_false_eq_true, not_true_eq_false] at c16
    have hE := levelsE_bad (a := a) (n := 0) c16
    refine skip ?_
    show Code.wp _ _ _ _ _
    refine seq ?_
    refine seq ?_
    refine region ?_
    refine sv (yMove rfl) ?_
    refine sv (yNeq rfl rfl) ?_
    refine nil ?_
    show Code.wp _ _ _ _ _
    refine cond rfl (fun c21 => ?_) (fun c21 => ?_)
    ·
      simp only [Bool.and_eq_true, Bool.or_eq_true, Bool.and_eq_false_iff, Bool.or_eq_false_iff, decide_eq_true_eq, decide_eq_false_iff_not, Bool.not_eq_true, Bool.not_eq_false, Bool.not_not, Bool.not_eq_eq_eq_not, Bool.not_true, Bool.not_false, Bool.false_eq_true, Bool.true_eq_false, ne_eq, Decidable.not_not, not_false_eq_true, not_true_eq_false] at c21
      refine seq ?_
      refine region ?_
      refine sv (yMove rfl) ?_
      refine sv (yAsg rfl) ?_
      refine sv (yAsg rfl) ?_
      refine nil ?_
      show Code.wp _ _ _ _ _
      refine wp_ret (thenR ?_)
      refine retQ (res2 rfl rfl rfl) ?_
      refine ⟨.slice none 0 0, by rw [hE]; rfl, ?_⟩
      rw [levelsF_bad (by rw [hE]; exact c21)]
      exact (hS.sub (List.nil_sublist _)).nilrow 38 2
    ·
      simp only [Bool.and_eq_true, Bool.or_eq_true, Bool.and_eq_false_iff, Bool.or_eq_false_iff, decide_eq_true_eq, decide_eq_false_iff_not, Bool.not_eq_true, Bool.not_eq_false, Bool.not_not, Bool.not_eq_eq_eq_not, Bool.not_true, Bool.not_false, Bool.false_eq_true, Bool.true_eq_false, ne_eq, Decidable.not_not, not_false_eq_true, not_true_eq_false] at c21
      exact absurd c21 c16
theorem c_Levels {t : Table} {cs : List Value} {a n : Int} {w0 : World} (ht : RTable w0 cs t) : CE Try.prog 34 #[.agg cs.toArray, .int .i64 a, .int .i64 n] w0 (fun v w' => ∃ sv, v = .tuple #[sv, .int .i64 (levelsE t a n)] ∧ St w0 w' [rowI sv 38 2 (levelsF t a n).length ((levelsF t a n).flatMap spanC)]) := by
  by_cases hn : n = 0
  · subst hn; exact c_Levels0 (n := 0) ht
  · exact c_LevelsP ht hn
/-- barrage/barrageref01.down -/
theorem c_down {a b : Int} {w0 : World} (hb : 0 < b) (ha : Bd a (-1000000000000) 1000000000000) : CV Try.prog 103 #[.int .i64 a, .int .i64 b] w0 (.int .i64 (a / b)) := by
  refine enter Try.func103 rfl Try.ntmps103 rfl ?_
  have hS := St.start w0
  refine seq ?_
  refine region ?_
  refine sv (yAsg rfl) ?_
  refine nil ?_
  show Code.wp _ _ _ _ _
  refine seq ?_
  refine region ?_
  refine sv (yMove rfl) ?_
  refine sv (yMove rfl) ?_
  refine sv (yQuo rfl rfl hb ⟨by omega, by omega⟩) ?_
  refine sv (yAsg rfl) ?_
  refine nil ?_
  show Code.wp _ _ _ _ _
  refine seq ?_
  refine seq ?_
  refine region ?_
  refine sv (yMove rfl) ?_
  refine sv (yMove rfl) ?_
  refine sv (yRem rfl rfl hb) ?_
  refine sv (yLss rfl rfl) ?_
  refine nil ?_
  show Code.wp _ _ _ _ _
  refine cond rfl (fun c12 => ?_) (fun c12 => ?_)
  ·
    simp only [Bool.and_eq_true, Bool.or_eq_true, Bool.and_eq_false_iff, Bool.or_eq_false_iff, decide_eq_true_eq, decide_eq_false_iff_not, Bool.not_eq_true, Bool.not_eq_false, Bool.not_not, Bool.not_eq_eq_eq_not, Bool.not_true, Bool.not_false, Bool.false_eq_true, Bool.true_eq_false, ne_eq, Decidable.not_not, not_false_eq_true, not_true_eq_false] at c12
    have hd := tdiv_floor (a := a) hb
    rw [if_pos c12] at hd
    have hq := tdiv_bd hb ha
    refine region ?_
    refine sv (yMove rfl) ?_
    refine sv (ySub rfl rfl ⟨by omega, by omega⟩) ?_
    refine sv (yAsg rfl) ?_
    refine nil ?_
    show Code.wp _ _ _ _ _
    refine seq ?_
    refine region ?_
    refine sv (yMove rfl) ?_
    refine sv (yAsg rfl) ?_
    refine nil ?_
    show Code.wp _ _ _ _ _
    refine wp_ret ?_
    exact retV (res1 rfl (eqI hd.symm)) hS.ext
  ·
    simp only [Bool.and_eq_true, Bool.or_eq_true, Bool.and_eq_false_iff, Bool.or_eq_false_iff, decide_eq_true_eq, decide_eq_false_iff_not, Bool.not_eq_true, Bool.not_eq_false, Bool.not_not, Bool.not_eq_eq_eq_not, Bool.not_true, Bool.not_false, Bool.false_eq_true, Bool.true_eq_false, ne_eq, Decidable.not_not, not_false_eq_true, not_true_eq_false] at c12
    have hd := tdiv_floor (a := a) hb
    rw [if_neg c12] at hd
    refine skip ?_
    show Code.wp _ _ _ _ _
    refine seq ?_
    refine region ?_
    refine sv (yMove rfl) ?_
    refine sv (yAsg rfl) ?_
    refine nil ?_
    show Code.wp _ _ _ _ _
    refine wp_ret ?_
    exact retV (res1 rfl (eqI hd.symm)) hS.ext
/-- barrage/barrageref01.up -/
theorem c_up {a b : Int} {w0 : World} (hb : 0 < b) (ha : Bd a (-1000000000000) 1000000000000) : CV Try.prog 104 #[.int .i64 a, .int .i64 b] w0 (.int .i64 (-((-a) / b))) := by
  refine enter Try.func104 rfl Try.ntmps104 rfl ?_
  have hS := St.start w0
  have hq := div_bd (a := -a) (b := b) (A := 1000000000000) hb ⟨by have := Int.mul_le_mul_of_nonneg_left (show 1 ≤ b by omega) (show (0 : Int) ≤ 1000000000000 by decide); omega, by have := Int.mul_le_mul_of_nonneg_left (show 1 ≤ b by omega) (show (0 : Int) ≤ 1000000000000 by decide); omega⟩
  refine seq ?_
  refine region ?_
  refine sv (yAsg rfl) ?_
  refine nil ?_
  show Code.wp _ _ _ _ _
  refine seq ?_
  refine region ?_
  refine sv (yMove rfl) ?_
  refine sv (yNeg rfl ⟨by omega, by omega⟩) ?_
  refine sv (yMove rfl) ?_
  refine scall Try.call103 (.cons rfl (.cons rfl .nil)) (c_down hb ⟨by omega, by omega⟩) ?_
  rintro _ w ⟨rfl, hE⟩; replace hS := hS.step hE; clear hE
  refine sv (yNeg rfl ⟨by omega, by omega⟩) ?_
  refine sv (yAsg rfl) ?_
  refine nil ?_
  show Code.wp _ _ _ _ _
  refine wp_ret ?_
  exact retV (res1 rfl rfl) hS.ext
set_option maxHeartbeats 2000000 in
/-- barrage/barrageref01.level -/
theorem c_rlevel {t : Table} {cs : List Value} {tick : Int} {w0 : World} (ht : RTable w0 cs t) (hok : TableOk t) (htb : Bd tick 0 300000) : CV Try.prog 73 #[.agg cs.toArray, .int .i64 tick] w0 (.agg (spanC (lvlT t tick)).toArray) := by
  obtain ⟨cv, rfl, hmean, hsl⟩ := id ht
  obtain ⟨a, cap, rfl, hcap, hmx, hel⟩ := id hsl
  have hmean0 := hok.mean
  have hl12 := hok.len
  refine enter Try.func73 rfl Try.ntmps73 rfl ?_
  have hS := St.start w0
  refine seq ?_
  refine region ?_
  refine sbox hS rfl rfl ?_; clear hS; intro b2 w hS
  refine salloc hS Try.zeroValue38 rfl ?_; clear hS; intro b4 w hS
  refine nil ?_
  show Code.wp _ _ _ _ _
  refine seq ?_
  refine region ?_
  refine sv (fa24_0 rfl) ?_
  refine sv (yLdB rfl Try.isAgg3 (hS.at _) rfl) ?_
  refine sv (fa24_0 rfl) ?_
  refine sv (yLdB rfl Try.isAgg3 (hS.at _) rfl) ?_
  refine sv (yBuild Try.zeroValue38 rfl pl38 (.cons rfl rfl (.cons rfl rfl .nil)) rfl) ?_
  refine salloc hS Try.zeroValue38 rfl ?_; clear hS; intro b5 w hS
  refine sst hS rfl rfl Try.sizeOf38 rfl rfl rfl rfl ?_; clear hS; intro w hS
  refine nil ?_
  show Code.wp _ _ _ _ _
  refine seq ?_
  refine seq ?_
  refine region ?_
  refine sv (yAsg rfl) ?_
  refine nil ?_
  show Code.wp _ _ _ _ _
  refine block ?_
  refine loop (fun f w zz => ∃ (k : Nat), f 1 = .int .i64 tick ∧ f 2 = .pointer (some ⟨b2, 0, none⟩) ∧ f 4 = .pointer (some ⟨b4, 0, none⟩) ∧ f 5 = .pointer (some ⟨b5, 0, none⟩) ∧ f 6 = .int .i64 (k : Int) ∧ St w0 w [blk b5 (spanC (lvl t.mean (t.consts.take k) tick)) 38, blk b4 [.int .i64 0, .int .i64 0] 38, blk b2 [.int .i64 t.mean, .slice a t.consts.length cap] 24] ∧ (k ≤ t.consts.length) ∧ zz = t.consts.length - k) _ ⟨_, rfl, 0, rfl, rfl, rfl, rfl, rfl, hS, (Nat.zero_le _), rfl⟩ ?_
  clear hS
  rintro f w _ ⟨k, h1, h2, h4, h5, h6, hS, hk, rfl⟩
  refine seq ?_
  refine seq ?_
  refine region ?_
  refine sv (yMove h6) ?_
  refine sv (fa24_1 h2) ?_
  refine sv (yLdB rfl Try.isAgg22 (hS.at _) rfl) ?_
  refine sv (yLen rfl Try.underlying22) ?_
  refine sv (yLss rfl rfl) ?_
  refine nil ?_
  show Code.wp _ _ _ _ _
  refine cond rfl (fun c22 => ?_) (fun c22 => ?_)
  ·
    simp only [Bool.and_eq_true, Bool.or_eq_true, Bool.and_eq_false_iff, Bool.or_eq_false_iff, decide_eq_true_eq, decide_eq_false_iff_not, Bool.not_eq_true, Bool.not_eq_false, Bool.not_not, Bool.not_eq_eq_eq_not, Bool.not_true, Bool.not_false, Bool.false_eq_true, Bool.true_eq_false, ne_eq, Decidable.not_not, not_false_eq_true, not_true_eq_false] at c22
    obtain ⟨c, hx, hd⟩ := drop_of (l := t.consts) (k := k) (by omega)
    obtain ⟨b, o, cs, ha, hlen, hcs, hR⟩ := hel (k) (by omega)
    obtain rfl : c = t.consts[k] := (List.getElem?_eq_some_iff.1 hx).2.symm
    generalize t.consts[k] = c at hx hd hR
    obtain ⟨hv, rfl, hn1, hsl1, hi1, hi2, hi3, hi4⟩ := hR
    have hx0 := hx
    have hcok : ConstOk c := hok.consts c (List.mem_of_getElem? hx)
    obtain ⟨a1, cap1, rfl, hq1, hq2, hel1⟩ := id hsl1
    have hcy := cyc_pos hcok
    have hden := hcok.den
    have hln := hcok.len
    have hsk := hcok.slack
    have hst := hcok.step
    have hof := hcok.off
    have hpb := pAt_bd hcok tick
    generalize hpe : pAt c tick = p at hpb
    have hqb := quot_bd hcok hpb
    have hib := interp_bd hcok hpb
    have hdv1 := div_bd (A := 10000) (show 0 < c.den by omega) hib
    have hdv2 := div_bd (a := -interp c p) (A := 10000) (show 0 < c.den by omega) ⟨by omega, by omega⟩
    have hm1 : Bd ((p / c.den + 1) % c.heights.length) 0 (c.heights.length - 1) := ⟨Int.emod_nonneg _ (by omega), by have := Int.emod_lt_of_pos (p / c.den + 1) (show 0 < (c.heights.length : Int) by omega); omega⟩
    have hh0 := height_bd hcok (p / c.den).toNat
    have hh1 := height_bd hcok ((p / c.den + 1) % c.heights.length).toNat
    have hmb := mul_bd (B := 1000) hh0 (show Bd (c.den - p % c.den) 0 1000 by omega) (by decide)
    have hmb2 := mul_bd (B := 1000) hh1 (show Bd (p % c.den) 0 1000 by omega) (by decide)
    obtain ⟨bx, ox, csx, hax, hlenx, hcsx, hRx⟩ := hel1 (p / c.den).toNat (by omega)
    obtain ⟨rfl, _⟩ := hRx
    rw [show c.heights[(p / c.den).toNat] = c.heights.getD (p / c.den).toNat 0 from getD_at _ _ (by omega)] at hcsx
    obtain ⟨bu, ou, csu, hau, hlenu, hcsu, hRu⟩ := hel1 ((p / c.den + 1) % c.heights.length).toNat (by omega)
    obtain ⟨rfl, _⟩ := hRu
    rw [show c.heights[((p / c.den + 1) % c.heights.length).toNat] = c.heights.getD ((p / c.den + 1) % c.heights.length).toNat 0 from getD_at _ _ (by omega)] at hcsu
    have hmt := mul_bd (a := tick) (b := c.step) (A := 300000) (B := 100000) ⟨by omega, by omega⟩ ⟨by omega, by omega⟩ (by decide)
    rw [Int.mul_comm] at hmt
    have hnn : 0 ≤ c.step * tick := Int.mul_nonneg (by omega) htb.1
    have hlb := lvl_bd hmean0 (t.consts.take k) tick (fun x hx => hok.consts x (List.mem_of_mem_take hx))
    have htl : (t.consts.take k).length ≤ 12 := by simp; omega
    refine skip ?_
    show Code.wp _ _ _ _ _
    refine seq ?_
    refine block ?_
    refine seq ?_
    refine region ?_
    refine sv (fa24_1 h2) ?_
    refine sv (yLdB rfl Try.isAgg22 (hS.at _) rfl) ?_
    refine sv (yMove h6) ?_
    refine sv (yIxa rfl ha rfl Try.runUnderlying22 Try.sizeOf46 (by omega) (by omega)) ?_
    refine sv (yLdA rfl Try.isAgg46 Try.sizeOf46 (hcs.ext hS.ext) rfl) ?_
    refine salloc hS Try.zeroValue46 rfl ?_; clear hS; intro b7 w hS
    refine sst hS rfl rfl Try.sizeOf46 rfl rfl rfl rfl ?_; clear hS; intro w hS
    refine nil ?_
    show Code.wp _ _ _ _ _
    refine seq ?_
    refine region ?_
    refine sv (fa46_1 rfl) ?_
    refine sv (yLdB rfl Try.isAgg44 (hS.at _) rfl) ?_
    refine sv (yLen rfl Try.underlying44) ?_
    refine sv (yAsg rfl) ?_
    refine nil ?_
    show Code.wp _ _ _ _ _
    refine seq ?_
    refine region ?_
    refine sv (fa46_2 rfl) ?_
    refine sv (yLdB rfl Try.isAgg3 (hS.at _) rfl) ?_
    refine sv (fa46_3 rfl) ?_
    refine sv (yLdB rfl Try.isAgg3 (hS.at _) rfl) ?_
    refine sv (yMove h1) ?_
    refine sv (yMul rfl rfl ⟨by omega, by omega⟩) ?_
    refine sv (yAdd rfl rfl ⟨by omega, by omega⟩) ?_
    refine sv (fa46_4 rfl) ?_
    refine sv (yLdB rfl Try.isAgg3 (hS.at _) rfl) ?_
    refine sv (yMove rfl) ?_
    refine sv (yMul rfl rfl ⟨by omega, by omega⟩) ?_
    refine sv (Y.to (yRemP rfl rfl (by omega) (by omega)) (show Value.int .i64 ((c.off + c.step * tick) % (c.den * c.heights.length)) = .int .i64 p by rw [← hpe]; rfl)) ?_
    refine sv (yAsg rfl) ?_
    refine nil ?_
    show Code.wp _ _ _ _ _
    refine seq ?_
    refine region_draw mixed (by kernel_rfl) hS ?_
    refine qv (fun w hS => (yMove rfl)) ?_
    refine qv (fun w hS => (fa46_4 rfl)) ?_
    refine qv (fun w hS => (yLdB rfl Try.isAgg3 (hS.at _) rfl)) ?_
    refine qv (fun w hS => (yQuoP rfl rfl ⟨by omega, by omega⟩ (by omega))) ?_
    refine qv (fun w hS => (yMove rfl)) ?_
    refine qv (fun w hS => (fa46_4 rfl)) ?_
    refine qv (fun w hS => (yLdB rfl Try.isAgg3 (hS.at _) rfl)) ?_
    refine qv (fun w hS => (yRemP rfl rfl (by omega) (by omega))) ?_
    refine qv (fun w hS => (yAsg rfl)) ?_
    refine qv (fun w hS => (yAsg rfl)) ?_
    clear hS; refine qnil (fun w hS => ?_)
    show Code.wp _ _ _ _ _
    refine seq ?_
    refine region_draw mixed (by kernel_rfl) hS ?_
    refine qv (fun w hS => (fa46_1 rfl)) ?_
    refine qv (fun w hS => (yLdB rfl Try.isAgg44 (hS.at _) rfl)) ?_
    refine qv (fun w hS => (yMove rfl)) ?_
    refine qv (fun w hS => (yIxa rfl hax rfl Try.runUnderlying44 Try.sizeOf3 (by omega) (by omega))) ?_
    refine qv (fun w hS => (yLd rfl Try.isAgg3 ((hcsx.ext hS.ext).one))) ?_
    refine qv (fun w hS => (fa46_4 rfl)) ?_
    refine qv (fun w hS => (yLdB rfl Try.isAgg3 (hS.at _) rfl)) ?_
    refine qv (fun w hS => (yMove rfl)) ?_
    refine qv (fun w hS => (ySub rfl rfl ⟨by omega, by omega⟩)) ?_
    refine qv (fun w hS => (yMul rfl rfl ⟨by omega, by omega⟩)) ?_
    refine qv (fun w hS => (fa46_1 rfl)) ?_
    refine qv (fun w hS => (yLdB rfl Try.isAgg44 (hS.at _) rfl)) ?_
    refine qv (fun w hS => (yMove rfl)) ?_
    refine qv (fun w hS => (yAdd rfl rfl ⟨by omega, by omega⟩)) ?_
    refine qv (fun w hS => (yMove rfl)) ?_
    refine qv (fun w hS => (yRemP rfl rfl (by omega) (by omega))) ?_
    refine qv (fun w hS => (yIxa rfl hau rfl Try.runUnderlying44 Try.sizeOf3 (by omega) (by omega))) ?_
    refine qv (fun w hS => (yLd rfl Try.isAgg3 ((hcsu.ext hS.ext).one))) ?_
    refine qv (fun w hS => (yMove rfl)) ?_
    refine qv (fun w hS => (yMul rfl rfl ⟨by omega, by omega⟩)) ?_
    refine qv (fun w hS => (Y.to (yAdd rfl rfl ⟨by omega, by omega⟩) (show Value.int .i64 _ = .int .i64 (interp c p) from rfl))) ?_
    refine qv (fun w hS => (yAsg rfl)) ?_
    clear hS; refine qnil (fun w hS => ?_)
    show Code.wp _ _ _ _ _
    refine seq ?_
    refine cutK (fun f => f 1 = .int .i64 tick ∧ f 2 = .pointer (some ⟨b2, 0, none⟩) ∧ f 4 = .pointer (some ⟨b4, 0, none⟩) ∧ f 5 = .pointer (some ⟨b5, 0, none⟩) ∧ f 6 = .int .i64 (k : Int) ∧ f 7 = .pointer (some ⟨b7, 0, none⟩) ∧ f 12 = .int .i64 (interp c p) ∧ True) ⟨h1, h2, h4, h5, h6, rfl, rfl, trivial⟩ ?_
    rintro f ⟨h1, h2, h4, h5, h6, h7, h12, -⟩
    refine region_tail mixed 11 (by kernel_rfl) hS ?_
    refine qv (fun w hS => (fa38_0 h5)) ?_
    refine qv (fun w hS => (yLdB rfl Try.isAgg3 (hS.at _) rfl)) ?_
    refine qv (fun w hS => (yMove h12)) ?_
    refine qv (fun w hS => (fa46_4 h7)) ?_
    refine qv (fun w hS => (yLdB rfl Try.isAgg3 (hS.at _) rfl)) ?_
    refine qcall Try.call103 (.cons rfl (.cons rfl .nil)) (fun w hS => (c_down (by omega) ⟨by omega, by omega⟩)) ?_
    refine qv (fun w hS => (yAdd rfl rfl ⟨by omega, by omega⟩)) ?_
    refine qv (fun w hS => (fa46_5 h7)) ?_
    refine qv (fun w hS => (yLdB rfl Try.isAgg3 (hS.at _) rfl)) ?_
    have hsub : (lvl t.mean (t.consts.take k) tick).lo + interp c p / c.den - c.slack = (addS (lvl t.mean (t.consts.take k) tick) (partP c (pAt c tick))).lo := by rw [hpe]; unfold addS partP; simp only []; omega
    refine qv (fun w hS => (Y.to (ySub rfl rfl ⟨by omega, by omega⟩) (eqI hsub.symm))) ?_
    refine qv (fun w hS => (fa38_0 h5)) ?_
    clear hS; refine qtl (fun w hS => ?_)
    refine sst hS rfl rfl Try.sizeOf3 rfl rfl rfl rfl ?_; clear hS; intro w hS
    refine nil ?_
    show Code.wp _ _ _ _ _
    refine region_tail mixed 11 (by kernel_rfl) hS ?_
    refine qv (fun w hS => (fa38_1 h5)) ?_
    refine qv (fun w hS => (yLdB rfl Try.isAgg3 (hS.at _) rfl)) ?_
    refine qv (fun w hS => (yMove h12)) ?_
    refine qv (fun w hS => (fa46_4 h7)) ?_
    refine qv (fun w hS => (yLdB rfl Try.isAgg3 (hS.at _) rfl)) ?_
    refine qcall Try.call104 (.cons rfl (.cons rfl .nil)) (fun w hS => (c_up (by omega) ⟨by omega, by omega⟩)) ?_
    refine qv (fun w hS => (yAdd rfl rfl ⟨by omega, by omega⟩)) ?_
    refine qv (fun w hS => (fa46_5 h7)) ?_
    refine qv (fun w hS => (yLdB rfl Try.isAgg3 (hS.at _) rfl)) ?_
    have hsuh : (lvl t.mean (t.consts.take k) tick).hi + -((-interp c p) / c.den) + c.slack = (addS (lvl t.mean (t.consts.take k) tick) (partP c (pAt c tick))).hi := by rw [hpe]; unfold addS partP; simp only []; omega
    refine qv (fun w hS => (Y.to (yAdd rfl rfl ⟨by omega, by omega⟩) (eqI hsuh.symm))) ?_
    refine qv (fun w hS => (fa38_1 h5)) ?_
    clear hS; refine qtl (fun w hS => ?_)
    refine sst hS rfl rfl Try.sizeOf3 rfl rfl rfl rfl ?_; clear hS; intro w hS
    refine nil ?_
    show Code.wp _ _ _ _ _
    refine region ?_
    refine sv (yMove h6) ?_
    refine sv (yAdd rfl rfl ⟨by omega, by omega⟩) ?_
    refine sv (yAsg rfl) ?_
    refine nil ?_
    exact ⟨_, _, rfl, ⟨k + 1, h1, h2, h4, h5, rfl, (by rw [lvl_take hx0]; exact hS.sub (.cons _ (List.Sublist.refl _))), (by omega), rfl⟩, by omega⟩
  ·
    simp only [Bool.and_eq_true, Bool.or_eq_true, Bool.and_eq_false_iff, Bool.or_eq_false_iff, decide_eq_true_eq, decide_eq_false_iff_not, Bool.not_eq_true, Bool.not_eq_false, Bool.not_not, Bool.not_eq_eq_eq_not, Bool.not_true, Bool.not_false, Bool.false_eq_true, Bool.true_eq_false, ne_eq, Decidable.not_not, not_false_eq_true, not_true_eq_false] at c22
    obtain rfl : k = t.consts.length := by omega
    rw [List.take_length] at hS
    refine exit ?_
    show Code.wp _ _ _ _ _
    refine seq ?_
    refine region ?_
    refine sv (yLdBA h5 Try.isAgg38 Try.sizeOf38 (hS.at _) rfl rfl) ?_
    refine sst hS h4 rfl Try.sizeOf38 rfl rfl rfl rfl ?_; clear hS; intro w hS
    refine nil ?_
    show Code.wp _ _ _ _ _
    refine wp_ret ?_
    exact retV (resV1 rfl (rc h4 Try.isAgg38 Try.sizeOf38 (hS.at _) rfl rfl)) hS.ext
/-- barrage/barrageref01.Level -/
theorem c_rLevel {t : Table} {cs : List Value} {tick : Int} {w0 : World} (ht : RTable w0 cs t) : CV Try.prog 33 #[.agg cs.toArray, .int .i64 tick] w0 (.tuple #[.agg (spanC (levelF t tick).1).toArray, .int .i64 (levelF t tick).2]) := by
  obtain ⟨cv, rfl, hmean, hsl⟩ := id ht
  obtain ⟨a, cap, rfl, hcap, hmx, hel⟩ := id hsl
  refine enter Try.func33 rfl Try.ntmps33 rfl ?_
  have hS := St.start w0
  refine seq ?_
  refine region ?_
  refine sbox hS rfl rfl ?_; clear hS; intro b2 w hS
  refine salloc hS Try.zeroValue38 rfl ?_; clear hS; intro b4 w hS
  refine sv (yAsg rfl) ?_
  refine nil ?_
  show Code.wp _ _ _ _ _
  refine seq ?_
  refine region ?_
  refine sv (yLdBA rfl Try.isAgg24 Try.sizeOf24 (hS.at _) rfl rfl) ?_
  refine scall Try.call20 (.cons rfl .nil) (c_rCheck (ht.ext hS.ext)) ?_
  rintro _ w ⟨rfl, hE⟩; replace hS := hS.step hE; clear hE
  refine sv (yMove rfl) ?_
  refine sv (yExt rfl rfl) ?_
  refine sv (yExt rfl rfl) ?_
  refine sv (yAsg rfl) ?_
  refine sv (yAsg rfl) ?_
  refine nil ?_
  show Code.wp _ _ _ _ _
  refine seq ?_
  refine seq ?_
  refine region ?_
  refine sv (yMove rfl) ?_
  refine sv (yEql rfl rfl) ?_
  refine sv (yMove rfl) ?_
  refine sg rfl rfl rfl (fun g => (yMove rfl)) (fun v16 g16 => ?_)
  refine sgc hS rfl rfl rfl Try.call67 (fun g => (.cons (g16.1 g) .nil)) (fun g => c_tick) ?_; clear hS; intro v17 w hS g17
  refine sg rfl rfl rfl (fun g => (yNot (g17.1 g))) (fun v18 g18 => ?_)
  refine sv (yAnd rfl (fun hB => (g18.1 hB)) rfl) ?_
  refine nil ?_
  show Code.wp _ _ _ _ _
  refine cond rfl (fun c19 => ?_) (fun c19 => ?_)
  ·
    simp only [Bool.and_eq_true, Bool.or_eq_true, Bool.and_eq_false_iff, Bool.or_eq_false_iff, decide_eq_true_eq, decide_eq_false_iff_not, Bool.not_eq_true, Bool.not_eq_false, Bool.not_not, Bool.not_eq_eq_eq_not, Bool.not_true, Bool.not_false, Bool.false_eq_true, Bool.true_eq_false, ne_eq, Decidable.not_not, not_false_eq_true, not_true_eq_false] at c19
    refine region ?_
    refine sv (yAsg rfl) ?_
    refine nil ?_
    show Code.wp _ _ _ _ _
    refine seq ?_
    refine seq ?_
    refine region ?_
    refine sv (yMove rfl) ?_
    refine sv (yNeq rfl rfl) ?_
    refine nil ?_
    show Code.wp _ _ _ _ _
    refine cond rfl (fun c21 => ?_) (fun c21 => ?_)
    ·
      simp only [Bool.and_eq_true, Bool.or_eq_true, Bool.and_eq_false_iff, Bool.or_eq_false_iff, decide_eq_true_eq, decide_eq_false_iff_not, Bool.not_eq_true, Bool.not_eq_false, Bool.not_not, Bool.not_eq_eq_eq_not, Bool.not_true, Bool.not_false, Bool.false_eq_true, Bool.true_eq_false, ne_eq, Decidable.not_not, not_false_eq_true, not_true_eq_false] at c21
      refine seq ?_
      refine region ?_
      refine sv (yBuild Try.zeroValue38 rfl pl38 .nil rfl) ?_
      refine sv (yMove rfl) ?_
      refine sst hS rfl rfl Try.sizeOf38 rfl rfl rfl rfl ?_; clear hS; intro w hS
      refine sv (yAsg rfl) ?_
      refine nil ?_
      show Code.wp _ _ _ _ _
      have hfin : levelF t tick = (⟨0, 0⟩, 7) := by unfold levelF; rw [if_neg (fun h => h c19.1), if_pos (by unfold ticksE; rw [if_pos]; decide; simp only [List.any_cons, List.any_nil, Bool.or_false, outB_inB, c19.2]; rfl)]; unfold ticksE; rw [if_pos]; simp only [List.any_cons, List.any_nil, Bool.or_false, outB_inB, c19.2]; rfl
      refine wp_ret (thenR ?_)
      exact retV (resV2 rfl (rc rfl Try.isAgg38 Try.sizeOf38 (hS.at _) (by rw [hfin]; rfl) rfl) (rt (eqI (by rw [hfin])))) hS.ext
    ·
      simp only [Bool.and_eq_true, Bool.or_eq_true, Bool.and_eq_false_iff, Bool.or_eq_false_iff, decide_eq_true_eq, decide_eq_false_iff_not, Bool.not_eq_true, Bool.not_eq_false, Bool.not_not, Bool.not_eq_eq_eq_not, Bool.not_true, Bool.not_false, Bool.false_eq_true, Bool.true_eq_false, ne_eq, Decidable.not_not, not_false_eq_true, not_true_eq_false] at c21
      exact absurd c21 (by decide)
  ·
    simp only [Bool.and_eq_true, Bool.or_eq_true, Bool.and_eq_false_iff, Bool.or_eq_false_iff, decide_eq_true_eq, decide_eq_false_iff_not, Bool.not_eq_true, Bool.not_eq_false, Bool.not_not, Bool.not_eq_eq_eq_not, Bool.not_true, Bool.not_false, Bool.false_eq_true, Bool.true_eq_false, ne_eq, Decidable.not_not, not_false_eq_true, not_true_eq_false] at c19
    refine skip ?_
    show Code.wp _ _ _ _ _
    refine seq ?_
    refine seq ?_
    refine region ?_
    refine sv (yMove rfl) ?_
    refine sv (yNeq rfl rfl) ?_
    refine nil ?_
    show Code.wp _ _ _ _ _
    refine cond rfl (fun c21 => ?_) (fun c21 => ?_)
    ·
      simp only [Bool.and_eq_true, Bool.or_eq_true, Bool.and_eq_false_iff, Bool.or_eq_false_iff, decide_eq_true_eq, decide_eq_false_iff_not, Bool.not_eq_true, Bool.not_eq_false, Bool.not_not, Bool.not_eq_eq_eq_not, Bool.not_true, Bool.not_false, Bool.false_eq_true, Bool.true_eq_false, ne_eq, Decidable.not_not, not_false_eq_true, not_true_eq_false] at c21
      refine seq ?_
      refine region ?_
      refine sv (yBuild Try.zeroValue38 rfl pl38 .nil rfl) ?_
      refine sv (yMove rfl) ?_
      refine sst hS rfl rfl Try.sizeOf38 rfl rfl rfl rfl ?_; clear hS; intro w hS
      refine sv (yAsg rfl) ?_
      refine nil ?_
      show Code.wp _ _ _ _ _
      have hfin : levelF t tick = (⟨0, 0⟩, (checkT t).2) := by unfold levelF; rw [if_pos c21]
      refine wp_ret (thenR ?_)
      exact retV (resV2 rfl (rc rfl Try.isAgg38 Try.sizeOf38 (hS.at _) (by rw [hfin]; rfl) rfl) (rt (eqI (by rw [hfin])))) hS.ext
    ·
      simp only [Bool.and_eq_true, Bool.or_eq_true, Bool.and_eq_false_iff, Bool.or_eq_false_iff, decide_eq_true_eq, decide_eq_false_iff_not, Bool.not_eq_true, Bool.not_eq_false, Bool.not_not, Bool.not_eq_eq_eq_not, Bool.not_true, Bool.not_false, Bool.false_eq_true, Bool.true_eq_false, ne_eq, Decidable.not_not, not_false_eq_true, not_true_eq_false] at c21
      have htb : Bd tick 0 200000 := inB_iff.1 (by rcases c19 with h | h; exact absurd c21 h; exact h)
      have hok := tableOk_of c21
      have hfin := levelF_ok c21 htb
      refine skip ?_
      show Code.wp _ _ _ _ _
      refine seq ?_
      refine region ?_
      refine sv (yLdBA rfl Try.isAgg24 Try.sizeOf24 (hS.at _) rfl rfl) ?_
      refine sv (yMove rfl) ?_
      refine scall Try.call73 (.cons rfl (.cons rfl .nil)) (c_rlevel (ht.ext hS.ext) hok ⟨by omega, by omega⟩) ?_
      rintro _ w ⟨rfl, hE⟩; replace hS := hS.step hE; clear hE
      refine sst hS rfl rfl Try.sizeOf38 rfl rfl rfl rfl ?_; clear hS; intro w hS
      refine sv (yAsg rfl) ?_
      refine nil ?_
      show Code.wp _ _ _ _ _
      refine wp_ret ?_
      exact retV (resV2 rfl (rc rfl Try.isAgg38 Try.sizeOf38 (hS.at _) (by rw [hfin]; rfl) rfl) (rt (eqI (by rw [hfin])))) hS.ext
end Go.Proofs.Ytpgmehignepidaa
