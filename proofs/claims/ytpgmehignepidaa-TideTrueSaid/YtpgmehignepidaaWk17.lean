/- Walks, part Wk17. -/
import Derived.Test.YtpgmehignepidaaWk16
import Derived.Test.YtpgmehignepidaaP12
set_option linter.all false
namespace Go.Proofs.Ytpgmehignepidaa
open Go Bx
/-- barrage/barrageref01.gcd -/
theorem c_gcd0 {a b : Nat} {w0 : World} : CV Try.prog 96 #[.int .i64 (a : Int), .int .i64 (b : Int)] w0 (.int .i64 ((Nat.gcd a b : Nat) : Int)) := by
  refine enter Try.func96 rfl Try.ntmps96 rfl ?_
  have hS := St.start w0
  refine seq ?_
  refine region ?_
  refine sv (yAsg rfl) ?_
  refine nil ?_
  show Code.wp _ _ _ _ _
  refine seq ?_
  refine block ?_
  refine loop (fun f w zz => ∃ (x y : Nat), f 0 = .int .i64 (x : Int) ∧ f 1 = .int .i64 (y : Int) ∧ St w0 w [] ∧ (Nat.gcd x y = Nat.gcd a b) ∧ zz = 0 + y) _ ⟨_, rfl, a, b, rfl, rfl, hS, (rfl), rfl⟩ ?_
  clear hS
  rintro f w _ ⟨x, y, h0, h1, hS, hG, rfl⟩
  refine seq ?_
  refine seq ?_
  refine region ?_
  refine sv (yMove h1) ?_
  refine sv (yGtr rfl rfl) ?_
  refine nil ?_
  show Code.wp _ _ _ _ _
  refine cond rfl (fun c6 => ?_) (fun c6 => ?_)
  ·
    simp only [Bool.and_eq_true, Bool.or_eq_true, Bool.and_eq_false_iff, Bool.or_eq_false_iff, decide_eq_true_eq, decide_eq_false_iff_not, Bool.not_eq_true, Bool.not_eq_false, Bool.not_not, Bool.not_eq_eq_eq_not, Bool.not_true, Bool.not_false, Bool.false_eq_true, Bool.true_eq_false, ne_eq, Decidable.not_not, not_false_eq_true, not_true_eq_false] at c6
    refine skip ?_
    show Code.wp _ _ _ _ _
    refine block ?_
    refine region_draw mixed (by kernel_rfl) hS ?_
    refine qv (fun w hS => (yMove h1)) ?_
    refine qv (fun w hS => (yMove h0)) ?_
    refine qv (fun w hS => (yMove h1)) ?_
    refine qv (fun w hS => (Y.to (yRemP rfl rfl (by omega) (by omega)) (show Value.int .i64 ((x : Int) % (y : Int)) = .int .i64 ((x % y : Nat) : Int) by rw [Int.natCast_emod]))) ?_
    refine qv (fun w hS => (yAsg rfl)) ?_
    refine qv (fun w hS => (yAsg rfl)) ?_
    clear hS; refine qnil (fun w hS => ?_)
    exact ⟨_, _, rfl, ⟨y, x % y, rfl, rfl, hS, (by rw [← hG, Nat.gcd_comm x y, Nat.gcd_rec y x, Nat.gcd_comm]), rfl⟩, by have := Nat.mod_lt x (show 0 < y by omega); omega⟩
  ·
    simp only [Bool.and_eq_true, Bool.or_eq_true, Bool.and_eq_false_iff, Bool.or_eq_false_iff, decide_eq_true_eq, decide_eq_false_iff_not, Bool.not_eq_true, Bool.not_eq_false, Bool.not_not, Bool.not_eq_eq_eq_not, Bool.not_true, Bool.not_false, Bool.false_eq_true, Bool.true_eq_false, ne_eq, Decidable.not_not, not_false_eq_true, not_true_eq_false] at c6
    refine exit ?_
    show Code.wp _ _ _ _ _
    refine seq ?_
    refine region ?_
    refine sv (yMove h0) ?_
    refine sv (yAsg rfl) ?_
    refine nil ?_
    show Code.wp _ _ _ _ _
    obtain rfl : y = 0 := by omega
    refine wp_ret ?_
    exact retV (res1 rfl (eqI (by rw [← hG, Nat.gcd_zero_right]))) hS.ext
theorem c_gcd {a b : Int} {w0 : World} (ha : 0 ≤ a) (hb : 0 ≤ b) : CV Try.prog 96 #[.int .i64 a, .int .i64 b] w0 (.int .i64 (gcdI a b)) := by
  obtain ⟨a, rfl⟩ := Int.eq_ofNat_of_zero_le ha
  obtain ⟨b, rfl⟩ := Int.eq_ofNat_of_zero_le hb
  exact c_gcd0
set_option maxHeartbeats 1000000 in
/-- barrage/barrageref01.Period -/
theorem c_rPeriod {t : Table} {cs : List Value} {w0 : World} (ht : RTable w0 cs t) : CV Try.prog 48 #[.agg cs.toArray] w0 (.tuple #[.int .i64 (periodF t).1, .int .i64 (periodF t).2]) := by
  obtain ⟨cv, rfl, hmean, hsl⟩ := id ht
  obtain ⟨a, cap, rfl, hcap, hmx, hel⟩ := id hsl
  refine enter Try.func48 rfl Try.ntmps48 rfl ?_
  have hS := St.start w0
  refine seq ?_
  refine region ?_
  refine sbox hS rfl rfl ?_; clear hS; intro b1 w hS
  refine sv (yAsg rfl) ?_
  refine sv (yAsg rfl) ?_
  refine nil ?_
  show Code.wp _ _ _ _ _
  refine seq ?_
  refine region ?_
  refine sv (yLdBA rfl Try.isAgg24 Try.sizeOf24 (hS.at _) rfl rfl) ?_
  refine scall Try.call20 (.cons rfl .nil) (c_rCheck (ht.ext hS.ext)) ?_
  rintro _ w ⟨rfl, hE⟩; replace hS := hS.step hE; clear hE
  refine sv (yMove rfl) ?_
  refine sv (yExt rfl rfl) ?_
  refine sv (yExt rfl rfl) ?_
  refine sv (yAsg rfl) ?_
  refine sv (yAsg rfl) ?_
  refine nil ?_
  show Code.wp _ _ _ _ _
  refine seq ?_
  refine seq ?_
  refine region ?_
  refine sv (yMove rfl) ?_
  refine sv (yNeq rfl rfl) ?_
  refine nil ?_
  show Code.wp _ _ _ _ _
  refine cond rfl (fun c17 => ?_) (fun c17 => ?_)
  ·
    simp only [Bool.and_eq_true, Bool.or_eq_true, Bool.and_eq_false_iff, Bool.or_eq_false_iff, decide_eq_true_eq, decide_eq_false_iff_not, Bool.not_eq_true, Bool.not_eq_false, Bool.not_not, Bool.not_eq_eq_eq_not, Bool.not_true, Bool.not_false, Bool.false_eq_true, Bool.true_eq_false, ne_eq, Decidable.not_not, not_false_eq_true, not_true_eq_false] at c17
    refine seq ?_
    refine region ?_
    refine sv (yMove rfl) ?_
    refine sv (yAsg rfl) ?_
    refine sv (yAsg rfl) ?_
    refine nil ?_
    show Code.wp _ _ _ _ _
    have hfin : periodF t = (0, (checkT t).2) := by unfold periodF; rw [if_pos c17]
    refine wp_ret (thenR ?_)
    exact retV (res2 rfl (eqI (by rw [hfin])) (eqI (by rw [hfin]))) hS.ext
  ·
    simp only [Bool.and_eq_true, Bool.or_eq_true, Bool.and_eq_false_iff, Bool.or_eq_false_iff, decide_eq_true_eq, decide_eq_false_iff_not, Bool.not_eq_true, Bool.not_eq_false, Bool.not_not, Bool.not_eq_eq_eq_not, Bool.not_true, Bool.not_false, Bool.false_eq_true, Bool.true_eq_false, ne_eq, Decidable.not_not, not_false_eq_true, not_true_eq_false] at c17
    have hok := tableOk_of c17
    refine skip ?_
    show Code.wp _ _ _ _ _
    refine seq ?_
    refine region ?_
    refine sv (yAsg rfl) ?_
    refine nil ?_
    show Code.wp _ _ _ _ _
    refine seq ?_
    refine seq ?_
    refine region ?_
    refine sv (yAsg rfl) ?_
    refine nil ?_
    show Code.wp _ _ _ _ _
    refine block ?_
    refine loop (fun f w zz => ∃ (k : Nat) (n : Int), f 1 = .pointer (some ⟨b1, 0, none⟩) ∧ f 6 = .int .i64 n ∧ f 7 = .int .i64 (k : Int) ∧ St w0 w [blk b1 [.int .i64 t.mean, .slice a t.consts.length cap] 24] ∧ (k ≤ t.consts.length) ∧ (Bd n 1 1000000000) ∧ (periodF t = perL (t.consts.drop k) n) ∧ zz = t.consts.length - k) _ ⟨_, rfl, 0, 1, rfl, rfl, rfl, hS, (Nat.zero_le _), (⟨by decide, by decide⟩), (by unfold periodF; rw [if_neg (fun h => h c17)]; rfl), rfl⟩ ?_
    clear hS
    rintro f w _ ⟨k, n, h1, h6, h7, hS, hk, hn, hI, rfl⟩
    refine seq ?_
    refine seq ?_
    refine region ?_
    refine sv (yMove h7) ?_
    refine sv (fa24_1 h1) ?_
    refine sv (yLdB rfl Try.isAgg22 (hS.at _) rfl) ?_
    refine sv (yLen rfl Try.underlying22) ?_
    refine sv (yLss rfl rfl) ?_
    refine nil ?_
    show Code.wp _ _ _ _ _
    refine cond rfl (fun c23 => ?_) (fun c23 => ?_)
    ·
      simp only [Bool.and_eq_true, Bool.or_eq_true, Bool.and_eq_false_iff, Bool.or_eq_false_iff, decide_eq_true_eq, decide_eq_false_iff_not, Bool.not_eq_true, Bool.not_eq_false, Bool.not_not, Bool.not_eq_eq_eq_not, Bool.not_true, Bool.not_false, Bool.false_eq_true, Bool.true_eq_false, ne_eq, Decidable.not_not, not_false_eq_true, not_true_eq_false] at c23
      obtain ⟨c, hx, hd⟩ := drop_of (l := t.consts) (k := k) (by omega)
      obtain ⟨b, o, cs, ha, hlen, hcs, hR⟩ := hel (k) (by omega)
      obtain rfl : c = t.consts[k] := (List.getElem?_eq_some_iff.1 hx).2.symm
      generalize t.consts[k] = c at hx hd hR
      obtain ⟨hv, rfl, hn1, hsl1, hi1, hi2, hi3, hi4⟩ := hR
      have hx0 := hx
      have hcok : ConstOk c := hok.consts c (List.mem_of_getElem? hx)
      obtain ⟨a1, cap1, rfl, hq1, hq2, hel1⟩ := id hsl1
      have hcy := cyc_pos hcok
      have hden := hcok.den
      have hln := hcok.len
      have hsk := hcok.slack
      have hst := hcok.step
      have hof := hcok.off
      have hob := oneC_bd hcok
      have hqb := quo_n hn.1 hob.1
      have hpb := perS_bd hn hcok
      have hg1 := gcdI_pos (b := c.step) (show 0 < c.den * (c.heights.length : Int) by omega)
      have hg2 := gcdI_pos (b := oneC c) (show 0 < n by omega)
      refine skip ?_
      show Code.wp _ _ _ _ _
      refine seq ?_
      refine block ?_
      refine seq ?_
      refine region ?_
      refine sv (fa24_1 h1) ?_
      refine sv (yLdB rfl Try.isAgg22 (hS.at _) rfl) ?_
      refine sv (yMove h7) ?_
      refine sv (yIxa rfl ha rfl Try.runUnderlying22 Try.sizeOf46 (by omega) (by omega)) ?_
      refine sv (yLdA rfl Try.isAgg46 Try.sizeOf46 (hcs.ext hS.ext) rfl) ?_
      refine salloc hS Try.zeroValue46 rfl ?_; clear hS; intro b8 w hS
      refine sst hS rfl rfl Try.sizeOf46 rfl rfl rfl rfl ?_; clear hS; intro w hS
      refine nil ?_
      show Code.wp _ _ _ _ _
      refine seq ?_
      refine region ?_
      refine sv (fa46_4 rfl) ?_
      refine sv (yLdB rfl Try.isAgg3 (hS.at _) rfl) ?_
      refine sv (fa46_1 rfl) ?_
      refine sv (yLdB rfl Try.isAgg44 (hS.at _) rfl) ?_
      refine sv (yLen rfl Try.underlying44) ?_
      refine sv (yMul rfl rfl ⟨by omega, by omega⟩) ?_
      refine sv (yAsg rfl) ?_
      refine nil ?_
      show Code.wp _ _ _ _ _
      refine seq ?_
      refine region ?_
      refine sv (yMove rfl) ?_
      refine sv (yMove rfl) ?_
      refine sv (fa46_3 rfl) ?_
      refine sv (yLdB rfl Try.isAgg3 (hS.at _) rfl) ?_
      refine scall Try.call96 (.cons rfl (.cons rfl .nil)) (c_gcd (by omega) (by omega)) ?_
      rintro _ w ⟨rfl, hE⟩; replace hS := hS.step hE; clear hE
      refine sv (Y.to (yQuoP rfl rfl ⟨by omega, by omega⟩ hg1) (show Value.int .i64 (c.den * c.heights.length / gcdI (c.den * c.heights.length) c.step) = .int .i64 (oneC c) from rfl)) ?_
      refine sv (yAsg rfl) ?_
      refine nil ?_
      show Code.wp _ _ _ _ _
      refine seq ?_
      refine region ?_
      refine sv (yMove h6) ?_
      refine sv (yMove h6) ?_
      refine sv (yMove rfl) ?_
      refine scall Try.call96 (.cons rfl (.cons rfl .nil)) (c_gcd (by omega) (by omega)) ?_
      rintro _ w ⟨rfl, hE⟩; replace hS := hS.step hE; clear hE
      refine sv (yQuoP rfl rfl ⟨by omega, by omega⟩ hg2) ?_
      refine sv (yMove rfl) ?_
      have hpe := perS_eq hn.1 hcok
      refine sv (Y.to (yMul rfl rfl (show I64 (n / gcdI n (oneC c) * oneC c) from ⟨by omega, by omega⟩)) (show Value.int .i64 _ = .int .i64 (perS n c) by rw [hpe])) ?_
      refine sv (yAsg rfl) ?_
      refine nil ?_
      show Code.wp _ _ _ _ _
      refine seq ?_
      refine region ?_
      refine sv (yMove rfl) ?_
      refine sv (yGtr rfl rfl) ?_
      refine nil ?_
      show Code.wp _ _ _ _ _
      refine cond rfl (fun c51 => ?_) (fun c51 => ?_)
      ·
        simp only [Bool.and_eq_true, Bool.or_eq_true, Bool.and_eq_false_iff, Bool.or_eq_false_iff, decide_eq_true_eq, decide_eq_false_iff_not, Bool.not_eq_true, Bool.not_eq_false, Bool.not_not, Bool.not_eq_eq_eq_not, Bool.not_true, Bool.not_false, Bool.false_eq_true, Bool.true_eq_false, ne_eq, Decidable.not_not, not_false_eq_true, not_true_eq_false] at c51
        refine seq ?_
        refine region ?_
        refine sv (yAsg rfl) ?_
        refine sv (yAsg rfl) ?_
        refine nil ?_
        show Code.wp _ _ _ _ _
        have hfin : periodF t = (0, 3) := by rw [hI, hd, perL, if_pos c51]
        refine wp_ret (blockR (thenR (thenR (blockR (thenR ?_)))))
        exact retV (res2 rfl (eqI (by rw [hfin])) (eqI (by rw [hfin]))) hS.ext
      ·
        simp only [Bool.and_eq_true, Bool.or_eq_true, Bool.and_eq_false_iff, Bool.or_eq_false_iff, decide_eq_true_eq, decide_eq_false_iff_not, Bool.not_eq_true, Bool.not_eq_false, Bool.not_not, Bool.not_eq_eq_eq_not, Bool.not_true, Bool.not_false, Bool.false_eq_true, Bool.true_eq_false, ne_eq, Decidable.not_not, not_false_eq_true, not_true_eq_false] at c51
        refine skip ?_
        show Code.wp _ _ _ _ _
        refine region ?_
        refine sv (yMove h7) ?_
        refine sv (yAdd rfl rfl ⟨by omega, by omega⟩) ?_
        refine sv (yAsg rfl) ?_
        refine nil ?_
        exact ⟨_, _, rfl, ⟨k + 1, perS n c, h1, rfl, rfl, (hS.sub (.cons _ (List.Sublist.refl _))), (by omega), (⟨hpb.1, by omega⟩), (by rw [hI, hd, perL, if_neg c51]), rfl⟩, by omega⟩
    ·
      simp only [Bool.and_eq_true, Bool.or_eq_true, Bool.and_eq_false_iff, Bool.or_eq_false_iff, decide_eq_true_eq, decide_eq_false_iff_not, Bool.not_eq_true, Bool.not_eq_false, Bool.not_not, Bool.not_eq_eq_eq_not, Bool.not_true, Bool.not_false, Bool.false_eq_true, Bool.true_eq_false, ne_eq, Decidable.not_not, not_false_eq_true, not_true_eq_false] at c23
      obtain rfl : k = t.consts.length := by omega
      have hfin : periodF t = (n, 0) := by rw [hI, List.drop_length]; rfl
      refine exit ?_
      show Code.wp _ _ _ _ _
      refine seq ?_
      refine region ?_
      refine sv (yMove h6) ?_
      refine sv (yAsg rfl) ?_
      refine sv (yAsg rfl) ?_
      refine nil ?_
      show Code.wp _ _ _ _ _
      refine wp_ret ?_
      exact retV (res2 rfl (eqI (by rw [hfin])) (eqI (by rw [hfin]))) hS.ext
/-- barrage/barragelaw01.TideHighs -/
theorem w_TideHighs {t : Table} {cs : List Value} {a n : Int} {w0 : World} (ht : RTable w0 cs t) (hia : I64 a) (hin : I64 n) : CV Try.prog 17 #[.agg cs.toArray, .int .i64 a, .int .i64 n] w0 (.bool true) := by
  obtain ⟨cv, rfl, hmean, hsl⟩ := id ht
  obtain ⟨aa, cap, rfl, hcap, hmx, hel⟩ := id hsl
  refine enter Try.func17 rfl Try.ntmps17 rfl ?_
  have hS := St.start w0
  refine seq ?_
  refine region ?_
  refine sbox hS rfl rfl ?_; clear hS; intro b3 w hS
  refine sv (yAsg rfl) ?_
  refine nil ?_
  show Code.wp _ _ _ _ _
  refine seq ?_
  refine region ?_
  refine sv (yLdBA rfl Try.isAgg24 Try.sizeOf24 (hS.at _) rfl rfl) ?_
  refine sv (yMove rfl) ?_
  refine sv (yMove rfl) ?_
  refine scall Try.call46 (.cons rfl (.cons rfl (.cons rfl .nil))) (c_High (ht.ext hS.ext) hia hin) ?_
  rintro _ w ⟨sv1, rfl, hM⟩; replace hS := hS.call1 hM; clear hM
  refine sv (yMove rfl) ?_
  refine sv (yExt rfl rfl) ?_
  refine sv (yExt rfl rfl) ?_
  refine sv (yAsg rfl) ?_
  refine sv (yAsg rfl) ?_
  refine nil ?_
  show Code.wp _ _ _ _ _
  refine seq ?_
  refine region ?_
  refine sv (yLdBA rfl Try.isAgg24 Try.sizeOf24 (hS.at _) rfl rfl) ?_
  refine sv (yMove rfl) ?_
  refine sv (yMove rfl) ?_
  refine scall Try.call47 (.cons rfl (.cons rfl (.cons rfl .nil))) (c_rHigh (ht.ext hS.ext) hia hin) ?_
  rintro _ w ⟨sv2, rfl, hM⟩; replace hS := hS.call1 hM; clear hM
  refine sv (yMove rfl) ?_
  refine sv (yExt rfl rfl) ?_
  refine sv (yExt rfl rfl) ?_
  refine sv (yAsg rfl) ?_
  refine sv (yAsg rfl) ?_
  refine nil ?_
  show Code.wp _ _ _ _ _
  refine seq ?_
  refine seq ?_
  refine region ?_
  refine sv (yMove rfl) ?_
  refine sv (yMove rfl) ?_
  refine scall Try.call41 (.cons rfl (.cons rfl .nil)) (c_Ints (sl_ints (hS.row sv1) rfl highF_ok) (sl_ints (hS.row sv2) rfl highF_ok)) ?_
  rintro _ w ⟨rfl, hE⟩; replace hS := hS.step hE; clear hE
  refine sv (yNot rfl) ?_
  refine sv (yMove rfl) ?_
  refine sg rfl rfl rfl (fun g => (yMove rfl)) (fun v32 g32 => ?_)
  refine sg rfl rfl rfl (fun g => (yMove rfl)) (fun v33 g33 => ?_)
  refine sg rfl rfl rfl (fun g => (yNeq (g32.1 g) (g33.1 g))) (fun v34 g34 => ?_)
  refine sv (yOr rfl rfl (fun hB => (g34.1 hB))) ?_
  refine nil ?_
  show Code.wp _ _ _ _ _
  refine cond rfl (fun c35 => ?_) (fun c35 => ?_)
  ·
    exact absurd c35 (by simp)
  ·
    refine skip ?_
    show Code.wp _ _ _ _ _
    refine seq ?_
    refine region ?_
    refine sv (yLdBA rfl Try.isAgg24 Try.sizeOf24 (hS.at _) rfl rfl) ?_
    refine scall Try.call32 (.cons rfl .nil) (c_Period (ht.ext hS.ext)) ?_
    rintro _ w ⟨rfl, hE⟩; replace hS := hS.step hE; clear hE
    refine sv (yMove rfl) ?_
    refine sv (yExt rfl rfl) ?_
    refine sv (yExt rfl rfl) ?_
    refine sv (yAsg rfl) ?_
    refine sv (yAsg rfl) ?_
    refine nil ?_
    show Code.wp _ _ _ _ _
    refine seq ?_
    refine region ?_
    refine sv (yLdBA rfl Try.isAgg24 Try.sizeOf24 (hS.at _) rfl rfl) ?_
    refine scall Try.call48 (.cons rfl .nil) (c_rPeriod (ht.ext hS.ext)) ?_
    rintro _ w ⟨rfl, hE⟩; replace hS := hS.step hE; clear hE
    refine sv (yMove rfl) ?_
    refine sv (yExt rfl rfl) ?_
    refine sv (yExt rfl rfl) ?_
    refine sv (yAsg rfl) ?_
    refine sv (yAsg rfl) ?_
    refine nil ?_
    show Code.wp _ _ _ _ _
    refine seq ?_
    refine region ?_
    refine sv (yMove rfl) ?_
    refine sv (yMove rfl) ?_
    refine sv (yEql rfl rfl) ?_
    refine sv (yMove rfl) ?_
    refine sg rfl rfl rfl (fun g => (yMove rfl)) (fun v50 g50 => ?_)
    refine sg rfl rfl rfl (fun g => (yMove rfl)) (fun v51 g51 => ?_)
    refine sg rfl rfl rfl (fun g => (yEql (g50.1 g) (g51.1 g))) (fun v52 g52 => ?_)
    refine sv (yAnd rfl (fun hB => (g52.1 hB)) rfl) ?_
    refine sv (yMove rfl) ?_
    refine sgc hS rfl rfl rfl Try.call23 (fun g => .nil) (fun g => c_Awake) ?_; clear hS; intro v55 w hS g55
    refine sv (yAnd rfl (fun hB => (g55.1 hB)) rfl) ?_
    refine sv (yAsg rfl) ?_
    refine nil ?_
    show Code.wp _ _ _ _ _
    refine wp_ret ?_
    exact retV (res1 rfl (eqB (by simp))) hS.ext
end Go.Proofs.Ytpgmehignepidaa
