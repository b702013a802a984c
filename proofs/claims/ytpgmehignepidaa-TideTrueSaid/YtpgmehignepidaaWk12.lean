/- Walks, part Wk12. -/
import Derived.Test.YtpgmehignepidaaWk11
import Derived.Test.YtpgmehignepidaaP10
set_option linter.all false
namespace Go.Proofs.Ytpgmehignepidaa
open Go Bx
/-- barrage/tide.common -/
theorem c_common0 (m : Nat) : ∀ (a b : Nat) (w0 : World), b ≤ m → CV Try.prog 72 #[.int .i64 (a : Int), .int .i64 (b : Int)] w0 (.int .i64 ((Nat.gcd a b : Nat) : Int)) := by
  refine Nat.strongRecOn m (fun m ih => ?_)
  intro a b w0 hm
  refine enter Try.func72 rfl Try.ntmps72 rfl ?_
  have hS := St.start w0
  refine seq ?_
  refine region ?_
  refine sv (yAsg rfl) ?_
  refine nil ?_
  show Code.wp _ _ _ _ _
  refine seq ?_
  refine seq ?_
  refine region ?_
  refine sv (yMove rfl) ?_
  refine sv (yEql rfl rfl) ?_
  refine nil ?_
  show Code.wp _ _ _ _ _
  refine cond rfl (fun c6 => ?_) (fun c6 => ?_)
  ·
    simp only [Bool.and_eq_true, Bool.or_eq_true, Bool.and_eq_false_iff, Bool.or_eq_false_iff, decide_eq_true_eq, decide_eq_false_iff_not, Bool.not_eq_true, Bool.not_eq_false, Bool.not_not, Bool.not_eq_eq_eq_not, Bool.not_true, Bool.not_false, Bool.false_eq_true, Bool.true_eq_false, ne_eq, Decidable.not_not, not_false_eq_true, not_true_eq_false] at c6
    refine seq ?_
    refine region ?_
    refine sv (yMove rfl) ?_
    refine sv (yAsg rfl) ?_
    refine nil ?_
    show Code.wp _ _ _ _ _
    obtain rfl : b = 0 := by omega
    refine wp_ret (thenR ?_)
    exact retV (res1 rfl (eqI (by rw [Nat.gcd_zero_right]))) hS.ext
  ·
    simp only [Bool.and_eq_true, Bool.or_eq_true, Bool.and_eq_false_iff, Bool.or_eq_false_iff, decide_eq_true_eq, decide_eq_false_iff_not, Bool.not_eq_true, Bool.not_eq_false, Bool.not_not, Bool.not_eq_eq_eq_not, Bool.not_true, Bool.not_false, Bool.false_eq_true, Bool.true_eq_false, ne_eq, Decidable.not_not, not_false_eq_true, not_true_eq_false] at c6
    refine skip ?_
    show Code.wp _ _ _ _ _
    refine seq ?_
    refine region ?_
    refine sv (yMove rfl) ?_
    refine sv (yMove rfl) ?_
    refine sv (yMove rfl) ?_
    refine sv (Y.to (yRemP rfl rfl (by omega) (by omega)) (show Value.int .i64 ((a : Int) % (b : Int)) = .int .i64 ((a % b : Nat) : Int) by rw [Int.natCast_emod])) ?_
    have hlt : a % b < b := Nat.mod_lt _ (by omega)
    refine scall Try.call72 (.cons rfl (.cons rfl .nil)) (ih (a % b) (by omega) _ _ _ (Nat.le_refl _)) ?_
    rintro _ w ⟨rfl, hE⟩; replace hS := hS.step hE; clear hE
    refine sv (yAsg rfl) ?_
    refine nil ?_
    show Code.wp _ _ _ _ _
    refine wp_ret ?_
    exact retV (res1 rfl (eqI (by congr 1; rw [Nat.gcd_comm a b, Nat.gcd_rec b a, Nat.gcd_comm]))) hS.ext
theorem c_common {a b : Int} {w0 : World} (ha : 0 ≤ a) (hb : 0 ≤ b) : CV Try.prog 72 #[.int .i64 a, .int .i64 b] w0 (.int .i64 (gcdI a b)) := by
  obtain ⟨a, rfl⟩ := Int.eq_ofNat_of_zero_le ha
  obtain ⟨b, rfl⟩ := Int.eq_ofNat_of_zero_le hb
  exact c_common0 b _ _ _ (Nat.le_refl _)
set_option maxHeartbeats 1000000 in
/-- barrage/tide.Period -/
theorem c_Period {t : Table} {cs : List Value} {w0 : World} (ht : RTable w0 cs t) : CV Try.prog 32 #[.agg cs.toArray] w0 (.tuple #[.int .i64 (periodF t).1, .int .i64 (periodF t).2]) := by
  obtain ⟨cv, rfl, hmean, hsl⟩ := id ht
  obtain ⟨a, cap, rfl, hcap, hmx, hel⟩ := id hsl
  refine enter Try.func32 rfl Try.ntmps32 rfl ?_
  have hS := St.start w0
  refine seq ?_
  refine region ?_
  refine sbox hS rfl rfl ?_; clear hS; intro b1 w hS
  refine sv (yAsg rfl) ?_
  refine sv (yAsg rfl) ?_
  refine nil ?_
  show Code.wp _ _ _ _ _
  refine seq ?_
  refine seq ?_
  refine region ?_
  refine sv (yLdBA rfl Try.isAgg24 Try.sizeOf24 (hS.at _) rfl rfl) ?_
  refine scall Try.call19 (.cons rfl .nil) (c_Check (ht.ext hS.ext)) ?_
  rintro _ w ⟨rfl, hE⟩; replace hS := hS.step hE; clear hE
  refine sv (yMove rfl) ?_
  refine sv (yExt rfl rfl) ?_
  refine sv (yExt rfl rfl) ?_
  refine sv (yAsg rfl) ?_
  refine sv (yAsg rfl) ?_
  refine nil ?_
  show Code.wp _ _ _ _ _
  refine seq ?_
  refine region ?_
  refine sv (yMove rfl) ?_
  refine sv (yNeq rfl rfl) ?_
  refine nil ?_
  show Code.wp _ _ _ _ _
  refine cond rfl (fun c16 => ?_) (fun c16 => ?_)
  ·
    simp only [Bool.and_eq_true, Bool.or_eq_true, Bool.and_eq_false_iff, Bool.or_eq_false_iff, decide_eq_true_eq, decide_eq_false_iff_not, Bool.not_eq_true, Bool.not_eq_false, Bool.not_not, Bool.not_eq_eq_eq_not, Bool.not_true, Bool.not_false, Bool.false_eq_true, Bool.true_eq_false, ne_eq, Decidable.not_not, not_false_eq_true, not_true_eq_false] at c16
    refine seq ?_
    refine region ?_
    refine sv (yMove rfl) ?_
    refine sv (yAsg rfl) ?_
    refine sv (yAsg rfl) ?_
    refine nil ?_
    show Code.wp _ _ _ _ _
    have hfin : periodF t = (0, (checkT t).2) := by unfold periodF; rw [if_pos c16]
    refine wp_ret (thenR ?_)
    exact retV (res2 rfl (eqI (by rw [hfin])) (eqI (by rw [hfin]))) hS.ext
  ·
    simp only [Bool.and_eq_true, Bool.or_eq_true, Bool.and_eq_false_iff, Bool.or_eq_false_iff, decide_eq_true_eq, decide_eq_false_iff_not, Bool.not_eq_true, Bool.not_eq_false, Bool.not_not, Bool.not_eq_eq_eq_not, Bool.not_true, Bool.not_false, Bool.false_eq_true, Bool.true_eq_false, ne_eq, Decidable.not_not, not_false_eq_true, not_true_eq_false] at c16
    have hok := tableOk_of c16
    refine skip ?_
    show Code.wp _ _ _ _ _
    refine seq ?_
    refine region ?_
    refine sv (yAsg rfl) ?_
    refine nil ?_
    show Code.wp _ _ _ _ _
    refine seq ?_
    refine seq ?_
    refine region ?_
    refine sv (fa24_1 rfl) ?_
    refine sv (yLdB rfl Try.isAgg22 (hS.at _) rfl) ?_
    refine sv (yLen rfl Try.underlying22) ?_
    refine sv (yMove rfl) ?_
    refine nil ?_
    show Code.wp _ _ _ _ _
    refine block ?_
    refine loop (fun f w zz => ∃ (k : Nat) (n : Int), f 6 = .int .i64 n ∧ f 19 = .slice a t.consts.length cap ∧ f 20 = .int .i64 (t.consts.length : Int) ∧ f 21 = .int .i64 (k : Int) ∧ St w0 w [] ∧ (k ≤ t.consts.length) ∧ (Bd n 1 1000000000) ∧ (periodF t = perL (t.consts.drop k) n) ∧ zz = t.consts.length - k) _ ⟨_, rfl, 0, 1, rfl, rfl, rfl, rfl, (hS.sub (List.nil_sublist _)), (Nat.zero_le _), (⟨by decide, by decide⟩), (by unfold periodF; rw [if_neg (fun h => h c16)]; rfl), rfl⟩ ?_
    clear hS
    rintro f w _ ⟨k, n, h6, h19, h20, h21, hS, hk, hn, hI, rfl⟩
    refine seq ?_
    refine region ?_
    refine sv (yLss h21 h20) ?_
    refine nil ?_
    show Code.wp _ _ _ _ _
    refine seq ?_
    refine cond rfl (fun c22 => ?_) (fun c22 => ?_)
    ·
      simp only [Bool.and_eq_true, Bool.or_eq_true, Bool.and_eq_false_iff, Bool.or_eq_false_iff, decide_eq_true_eq, decide_eq_false_iff_not, Bool.not_eq_true, Bool.not_eq_false, Bool.not_not, Bool.not_eq_eq_eq_not, Bool.not_true, Bool.not_false, Bool.false_eq_true, Bool.true_eq_false, ne_eq, Decidable.not_not, not_false_eq_true, not_true_eq_false] at c22
      refine skip ?_
      show Code.wp _ _ _ _ _
      refine seq ?_
      refine block ?_
      refine seq ?_
      refine region ?_
      obtain ⟨c, hx, hd⟩ := drop_of (l := t.consts) (k := k) (by omega)
      obtain ⟨b, o, cs, ha, hlen, hcs, hR⟩ := hel (k) (by omega)
      obtain rfl : c = t.consts[k] := (List.getElem?_eq_some_iff.1 hx).2.symm
      generalize t.consts[k] = c at hx hd hR
      obtain ⟨hv, rfl, hn1, hsl1, hi1, hi2, hi3, hi4⟩ := hR
      have hx0 := hx
      have hcok : ConstOk c := hok.consts c (List.mem_of_getElem? hx)
      obtain ⟨a1, cap1, rfl, hq1, hq2, hel1⟩ := id hsl1
      have hcy := cyc_pos hcok
      have hden := hcok.den
      have hln := hcok.len
      have hsk := hcok.slack
      have hst := hcok.step
      have hof := hcok.off
      have hob := oneC_bd hcok
      have hqb := quo_bd hn.1 hob.1
      have hpb := perS_bd hn hcok
      have hg1 := gcdI_pos (b := c.step) (show 0 < c.den * (c.heights.length : Int) by omega)
      have hg2 := gcdI_pos (b := oneC c) (show 0 < n by omega)
      refine sv (yIxa h19 ha h21 Try.runUnderlying22 Try.sizeOf46 (by omega) (by omega)) ?_
      refine sv (yLdA rfl Try.isAgg46 Try.sizeOf46 (hcs.ext hS.ext) rfl) ?_
      refine salloc hS Try.zeroValue46 rfl ?_; clear hS; intro b8 w hS
      refine sst hS rfl rfl Try.sizeOf46 rfl rfl rfl rfl ?_; clear hS; intro w hS
      refine nil ?_
      show Code.wp _ _ _ _ _
      refine seq ?_
      refine region_draw mixed (by kernel_rfl) hS ?_
      refine qv (fun w hS => (yLdBA rfl Try.isAgg46 Try.sizeOf46 (hS.at _) rfl rfl)) ?_
      refine qcall Try.call61 (.cons rfl .nil) (fun w hS => (c_cycle ⟨by omega, by omega⟩)) ?_
      refine qv (fun w hS => (yLdBA rfl Try.isAgg46 Try.sizeOf46 (hS.at _) rfl rfl)) ?_
      refine qcall Try.call61 (.cons rfl .nil) (fun w hS => (c_cycle ⟨by omega, by omega⟩)) ?_
      refine qv (fun w hS => (fa46_3 rfl)) ?_
      refine qv (fun w hS => (yLdB rfl Try.isAgg3 (hS.at _) rfl)) ?_
      refine qcall Try.call72 (.cons rfl (.cons rfl .nil)) (fun w hS => (c_common (by omega) (by omega))) ?_
      refine qv (fun w hS => (Y.to (yQuoP rfl rfl ⟨by omega, by omega⟩ hg1) (show Value.int .i64 (c.den * c.heights.length / gcdI (c.den * c.heights.length) c.step) = .int .i64 (oneC c) from rfl))) ?_
      refine qv (fun w hS => (yAsg rfl)) ?_
      clear hS; refine qnil (fun w hS => ?_)
      show Code.wp _ _ _ _ _
      refine seq ?_
      refine region ?_
      refine sv (yMove h6) ?_
      refine sv (yMove rfl) ?_
      refine sv (yMove h6) ?_
      refine sv (yMove rfl) ?_
      refine scall Try.call72 (.cons rfl (.cons rfl .nil)) (c_common (by omega) (by omega)) ?_
      rintro _ w ⟨rfl, hE⟩; replace hS := hS.step hE; clear hE
      refine sv (yQuoP rfl rfl ⟨by omega, by omega⟩ hg2) ?_
      refine sv (Y.to (yMul rfl rfl (show I64 (perS n c) from ⟨by omega, by omega⟩)) (show Value.int .i64 _ = .int .i64 (perS n c) from rfl)) ?_
      refine sv (yAsg rfl) ?_
      refine nil ?_
      show Code.wp _ _ _ _ _
      refine seq ?_
      refine region ?_
      refine sv (yMove rfl) ?_
      refine sv (yGtr rfl rfl) ?_
      refine nil ?_
      show Code.wp _ _ _ _ _
      refine cond rfl (fun c41 => ?_) (fun c41 => ?_)
      ·
        simp only [Bool.and_eq_true, Bool.or_eq_true, Bool.and_eq_false_iff, Bool.or_eq_false_iff, decide_eq_true_eq, decide_eq_false_iff_not, Bool.not_eq_true, Bool.not_eq_false, Bool.not_not, Bool.not_eq_eq_eq_not, Bool.not_true, Bool.not_false, Bool.false_eq_true, Bool.true_eq_false, ne_eq, Decidable.not_not, not_false_eq_true, not_true_eq_false] at c41
        refine seq ?_
        refine region ?_
        refine sv (yAsg rfl) ?_
        refine sv (yAsg rfl) ?_
        refine nil ?_
        show Code.wp _ _ _ _ _
        have hfin : periodF t = (0, 3) := by rw [hI, hd, perL, if_pos c41]
        refine wp_ret (blockR (thenR (thenR (blockR (thenR ?_)))))
        exact retV (res2 rfl (eqI (by rw [hfin])) (eqI (by rw [hfin]))) hS.ext
      ·
        simp only [Bool.and_eq_true, Bool.or_eq_true, Bool.and_eq_false_iff, Bool.or_eq_false_iff, decide_eq_true_eq, decide_eq_false_iff_not, Bool.not_eq_true, Bool.not_eq_false, Bool.not_not, Bool.not_eq_eq_eq_not, Bool.not_true, Bool.not_false, Bool.false_eq_true, Bool.true_eq_false, ne_eq, Decidable.not_not, not_false_eq_true, not_true_eq_false] at c41
        refine skip ?_
        show Code.wp _ _ _ _ _
        refine region ?_
        refine sv (yAdd h21 rfl ⟨by omega, by omega⟩) ?_
        refine sv (yMove rfl) ?_
        refine nil ?_
        exact ⟨_, _, rfl, ⟨k + 1, perS n c, rfl, h19, h20, rfl, (hS.sub (List.nil_sublist _)), (by omega), (⟨hpb.1, by omega⟩), (by rw [hI, hd, perL, if_neg c41]), rfl⟩, by omega⟩
    ·
      simp only [Bool.and_eq_true, Bool.or_eq_true, Bool.and_eq_false_iff, Bool.or_eq_false_iff, decide_eq_true_eq, decide_eq_false_iff_not, Bool.not_eq_true, Bool.not_eq_false, Bool.not_not, Bool.not_eq_eq_eq_not, Bool.not_true, Bool.not_false, Bool.false_eq_true, Bool.true_eq_false, ne_eq, Decidable.not_not, not_false_eq_true, not_true_eq_false] at c22
      refine exit ?_
      show Code.wp _ _ _ _ _
      refine seq ?_
      refine region ?_
      refine sv (yMove h6) ?_
      refine sv (yAsg rfl) ?_
      refine sv (yAsg rfl) ?_
      refine nil ?_
      show Code.wp _ _ _ _ _
      obtain rfl : k = t.consts.length := by omega
      have hfin : periodF t = (n, 0) := by rw [hI, List.drop_length]; rfl
      refine wp_ret ?_
      exact retV (res2 rfl (eqI (by rw [hfin])) (eqI (by rw [hfin]))) hS.ext
set_option maxHeartbeats 4000000 in
/-- barrage/barragelaw01.TideCycles -/
theorem w_TideCycles {t : Table} {cs : List Value} {tick : Int} {w0 : World} (ht : RTable w0 cs t) (hti : I64 tick) : CV Try.prog 8 #[.agg cs.toArray, .int .i64 tick] w0 (.bool true) := by
  obtain ⟨cv, rfl, hmean, hsl⟩ := id ht
  obtain ⟨a, cap, rfl, hcap, hmx, hel⟩ := id hsl
  refine enter Try.func8 rfl Try.ntmps8 rfl ?_
  have hS := St.start w0
  refine seq ?_
  refine region ?_
  refine sbox hS rfl rfl ?_; clear hS; intro b2 w hS
  refine sv (yAsg rfl) ?_
  refine nil ?_
  show Code.wp _ _ _ _ _
  refine seq ?_
  refine region ?_
  refine sv (yLdBA rfl Try.isAgg24 Try.sizeOf24 (hS.at _) rfl rfl) ?_
  refine scall Try.call32 (.cons rfl .nil) (c_Period (ht.ext hS.ext)) ?_
  rintro _ w ⟨rfl, hE⟩; replace hS := hS.step hE; clear hE
  refine sv (yMove rfl) ?_
  refine sv (yExt rfl rfl) ?_
  refine sv (yExt rfl rfl) ?_
  refine sv (yAsg rfl) ?_
  refine sv (yAsg rfl) ?_
  refine nil ?_
  show Code.wp _ _ _ _ _
  refine seq ?_
  refine region ?_
  refine sv (yLdBA rfl Try.isAgg24 Try.sizeOf24 (hS.at _) rfl rfl) ?_
  refine sv (yMove rfl) ?_
  refine scall Try.call28 (.cons rfl (.cons rfl .nil)) (c_Level (ht.ext hS.ext) hti) ?_
  rintro _ w ⟨rfl, hE⟩; replace hS := hS.step hE; clear hE
  refine sv (yMove rfl) ?_
  refine sv (yExt rfl rfl) ?_
  refine sv (yExt rfl rfl) ?_
  refine salloc hS Try.zeroValue38 rfl ?_; clear hS; intro b7 w hS
  refine sst hS rfl rfl Try.sizeOf38 rfl rfl rfl rfl ?_; clear hS; intro w hS
  refine sv (yAsg rfl) ?_
  refine nil ?_
  show Code.wp _ _ _ _ _
  refine seq ?_
  refine seq ?_
  refine region ?_
  refine sv (yMove rfl) ?_
  refine sv (yNeq rfl rfl) ?_
  refine nil ?_
  show Code.wp _ _ _ _ _
  refine cond rfl (fun c28 => ?_) (fun c28 => ?_)
  ·
    simp only [Bool.and_eq_true, Bool.or_eq_true, Bool.and_eq_false_iff, Bool.or_eq_false_iff, decide_eq_true_eq, decide_eq_false_iff_not, Bool.not_eq_true, Bool.not_eq_false, Bool.not_not, Bool.not_eq_eq_eq_not, Bool.not_true, Bool.not_false, Bool.false_eq_true, Bool.true_eq_false, ne_eq, Decidable.not_not, not_false_eq_true, not_true_eq_false] at c28
    refine seq ?_
    refine region ?_
    refine scall Try.call23 .nil c_Awake ?_
    rintro _ w ⟨rfl, hE⟩; replace hS := hS.step hE; clear hE
    refine sv (yAsg rfl) ?_
    refine nil ?_
    show Code.wp _ _ _ _ _
    refine wp_ret (thenR ?_)
    exact retV (res1 rfl rfl) hS.ext
  ·
    simp only [Bool.and_eq_true, Bool.or_eq_true, Bool.and_eq_false_iff, Bool.or_eq_false_iff, decide_eq_true_eq, decide_eq_false_iff_not, Bool.not_eq_true, Bool.not_eq_false, Bool.not_not, Bool.not_eq_eq_eq_not, Bool.not_true, Bool.not_false, Bool.false_eq_true, Bool.true_eq_false, ne_eq, Decidable.not_not, not_false_eq_true, not_true_eq_false] at c28
    obtain ⟨hC, htb, hLe⟩ := levelF_zero c28
    have hok := tableOk_of hC
    rw [hLe] at hS
    refine skip ?_
    show Code.wp _ _ _ _ _
    refine seqJ (n := 131) (fun f w => f 1 = .int .i64 tick ∧ f 2 = .pointer (some ⟨b2, 0, none⟩) ∧ StX [] w0 w [blk b2 [.int .i64 t.mean, .slice a t.consts.length cap] 24] ∧ True) ?_ ?_
    ·
      refine seq ?_
      refine region ?_
      refine sv (yMove rfl) ?_
      refine sv (yEql rfl rfl) ?_
      refine sv (yMove rfl) ?_
      refine sg rfl rfl rfl (fun g => (yMove rfl)) (fun v33 g33 => ?_)
      refine sg rfl rfl rfl (fun g => (yLeq (g33.1 g) rfl)) (fun v34 g34 => ?_)
      refine sv (yAnd rfl (fun hB => (g34.1 hB)) rfl) ?_
      refine sv (yMove rfl) ?_
      refine sg rfl rfl rfl (fun g => (yMove rfl)) (fun v37 g37 => ?_)
      refine sg rfl rfl rfl (fun g => (yMove rfl)) (fun v38 g38 => ?_)
      refine sg rfl rfl rfl (fun g => (ySub rfl (g38.1 g) (by obtain ⟨h1, h2⟩ := (Bool.and_eq_true _ _).mp g; have := (period_lvl (n := (periodF t).fst) (tick := tick) (Prod.ext rfl (of_decide_eq_true h1))).2.1; have := of_decide_eq_true h2; exact ⟨by omega, by omega⟩))) (fun v39 g39 => ?_)
      refine sg rfl rfl rfl (fun g => (yLeq (g37.1 g) (g39.1 g))) (fun v40 g40 => ?_)
      refine sv (yAnd rfl (fun hB => (g40.1 hB)) rfl) ?_
      refine nil ?_
      show Code.wp _ _ _ _ _
      refine cond rfl (fun c41 => ?_) (fun c41 => ?_)
      ·
        simp only [Bool.and_eq_true, Bool.or_eq_true, Bool.and_eq_false_iff, Bool.or_eq_false_iff, decide_eq_true_eq, decide_eq_false_iff_not, Bool.not_eq_true, Bool.not_eq_false, Bool.not_not, Bool.not_eq_eq_eq_not, Bool.not_true, Bool.not_false, Bool.false_eq_true, Bool.true_eq_false, ne_eq, Decidable.not_not, not_false_eq_true, not_true_eq_false] at c41
        obtain ⟨⟨hp0, hp1⟩, hp2⟩ := c41
        obtain ⟨_, hp3, hp4⟩ := period_lvl (t := t) (n := (periodF t).1) (tick := tick) (Prod.ext rfl hp0)
        have hLp := levelF_ok hC (show Bd (tick + (periodF t).1) 0 200000 by omega)
        refine seq ?_
        refine region ?_
        refine sv (yLdBA rfl Try.isAgg24 Try.sizeOf24 (hS.at _) rfl rfl) ?_
        refine sv (yMove rfl) ?_
        refine sv (yMove rfl) ?_
        refine sv (yAdd rfl rfl ⟨by omega, by omega⟩) ?_
        refine scall Try.call28 (.cons rfl (.cons rfl .nil)) (c_Level (ht.ext hS.ext) ⟨by omega, by omega⟩) ?_
        rintro _ w ⟨rfl, hE⟩; replace hS := hS.step hE; clear hE
        refine sv (yMove rfl) ?_
        refine sv (yExt rfl rfl) ?_
        refine sv (yExt rfl rfl) ?_
        refine salloc hS Try.zeroValue38 rfl ?_; clear hS; intro b9 w hS
        refine sst hS rfl rfl Try.sizeOf38 rfl rfl rfl rfl ?_; clear hS; intro w hS
        refine sv (yAsg rfl) ?_
        refine nil ?_
        show Code.wp _ _ _ _ _
        refine seq ?_
        refine region ?_
        refine sv (yMove rfl) ?_
        refine sv (yNeq rfl rfl) ?_
        refine sv (yMove rfl) ?_
        refine sg rfl rfl rfl (fun g => (yLdBA rfl Try.isAgg38 Try.sizeOf38 (hS.at _) rfl rfl)) (fun v53 g53 => ?_)
        refine sg rfl rfl rfl (fun g => (yLdBA rfl Try.isAgg38 Try.sizeOf38 (hS.at _) rfl rfl)) (fun v54 g54 => ?_)
        refine sg rfl rfl rfl (fun g => (neS38 (g53.1 g) (g54.1 g))) (fun v55 g55 => ?_)
        refine sv (yOr rfl rfl (fun hB => (g55.1 hB))) ?_
        refine sv (yMove rfl) ?_
        refine sg rfl rfl rfl (fun g => (yMove rfl)) (fun v58 g58 => ?_)
        refine sg rfl rfl rfl (fun g => (yLss (g58.1 g) rfl)) (fun v59 g59 => ?_)
        refine sv (yOr rfl rfl (fun hB => (g59.1 hB))) ?_
        refine nil ?_
        show Code.wp _ _ _ _ _
        refine cond rfl (fun c60 => ?_) (fun c60 => ?_)
        ·
          rw [hLp, hp4] at c60
          simp only [decide_not, ne_eq, decide_true, Bool.not_true, Bool.false_or, Bool.and_self, decide_eq_true_eq, decide_eq_false_iff_not] at c60
          omega
        ·
          rw [hLp, hp4] at c60
          simp only [decide_not, ne_eq, decide_true, Bool.not_true, Bool.false_or, Bool.and_self, decide_eq_true_eq, decide_eq_false_iff_not] at c60
          
          refine skip ?_
          exact ⟨_, rfl, rfl, rfl, (hS.sub (.cons _ (.cons _ (List.Sublist.refl _)))), trivial⟩
      ·
        simp only [Bool.and_eq_true, Bool.or_eq_true, Bool.and_eq_false_iff, Bool.or_eq_false_iff, decide_eq_true_eq, decide_eq_false_iff_not, Bool.not_eq_true, Bool.not_eq_false, Bool.not_not, Bool.not_eq_eq_eq_not, Bool.not_true, Bool.not_false, Bool.false_eq_true, Bool.true_eq_false, ne_eq, Decidable.not_not, not_false_eq_true, not_true_eq_false] at c41
        refine skip ?_
        exact ⟨_, rfl, rfl, rfl, (hS.sub (.cons _ (List.Sublist.refl _))), trivial⟩
    ·
      clear hS; rintro f w ⟨h1, h2, hS, -⟩
      refine seq ?_
      refine region ?_
      refine sv (yLdBA h2 Try.isAgg24 Try.sizeOf24 (hS.at _) rfl rfl) ?_
      refine sv (yMove h1) ?_
      refine sv (yAdd rfl rfl ⟨by omega, by omega⟩) ?_
      refine scall Try.call28 (.cons rfl (.cons rfl .nil)) (c_Level (ht.ext hS.ext) ⟨by omega, by omega⟩) ?_
      rintro _ w ⟨rfl, hE⟩; replace hS := hS.step hE; clear hE
      refine sv (yMove rfl) ?_
      refine sv (yExt rfl rfl) ?_
      refine sv (yExt rfl rfl) ?_
      refine salloc hS Try.zeroValue38 rfl ?_; clear hS; intro b11 w hS
      refine sst hS rfl rfl Try.sizeOf38 rfl rfl rfl rfl ?_; clear hS; intro w hS
      refine sv (yAsg rfl) ?_
      refine nil ?_
      show Code.wp _ _ _ _ _
      refine seq ?_
      refine seq ?_
      refine region ?_
      refine sv (yMove rfl) ?_
      refine sv (yNeq rfl rfl) ?_
      refine sv (yMove rfl) ?_
      refine sg rfl rfl rfl (fun g => (yMove h1)) (fun v71 g71 => ?_)
      refine sg rfl rfl rfl (fun g => (yGeq (g71.1 g) rfl)) (fun v72 g72 => ?_)
      refine sv (yOr rfl rfl (fun hB => (g72.1 hB))) ?_
      refine nil ?_
      show Code.wp _ _ _ _ _
      refine cond rfl (fun c73 => ?_) (fun c73 => ?_)
      ·
        simp only [Bool.and_eq_true, Bool.or_eq_true, Bool.and_eq_false_iff, Bool.or_eq_false_iff, decide_eq_true_eq, decide_eq_false_iff_not, Bool.not_eq_true, Bool.not_eq_false, Bool.not_not, Bool.not_eq_eq_eq_not, Bool.not_true, Bool.not_false, Bool.false_eq_true, Bool.true_eq_false, ne_eq, Decidable.not_not, not_false_eq_true, not_true_eq_false] at c73
        refine seq ?_
        refine region ?_
        refine scall Try.call23 .nil c_Awake ?_
        rintro _ w ⟨rfl, hE⟩; replace hS := hS.step hE; clear hE
        refine sv (yAsg rfl) ?_
        refine nil ?_
        show Code.wp _ _ _ _ _
        refine wp_ret (thenR ?_)
        exact retV (res1 rfl rfl) hS.ext
      ·
        simp only [Bool.and_eq_true, Bool.or_eq_true, Bool.and_eq_false_iff, Bool.or_eq_false_iff, decide_eq_true_eq, decide_eq_false_iff_not, Bool.not_eq_true, Bool.not_eq_false, Bool.not_not, Bool.not_eq_eq_eq_not, Bool.not_true, Bool.not_false, Bool.false_eq_true, Bool.true_eq_false, ne_eq, Decidable.not_not, not_false_eq_true, not_true_eq_false] at c73
        obtain ⟨hN, hlt⟩ := c73
        obtain ⟨_, _, hNe⟩ := levelF_zero hN
        rw [hNe] at hS
        refine skip ?_
        show Code.wp _ _ _ _ _
        refine seq ?_
        refine region ?_
        refine sv (yLdBA h2 Try.isAgg24 Try.sizeOf24 (hS.at _) rfl rfl) ?_
        refine salloc hS Try.zeroValue24 rfl ?_; clear hS; intro b12 w hS
        refine sst hS rfl rfl Try.sizeOf24 rfl rfl rfl rfl ?_; clear hS; intro w hS
        refine nil ?_
        show Code.wp _ _ _ _ _
        refine seq ?_
        refine region ?_
        refine sv (fa24_1 rfl) ?_
        refine sst hS rfl rfl Try.sizeOf22 rfl rfl rfl rfl ?_; clear hS; intro w hS
        refine nil ?_
        show Code.wp _ _ _ _ _
        refine seq ?_
        refine seq ?_
        refine region ?_
        refine sv (yAsg rfl) ?_
        refine nil ?_
        show Code.wp _ _ _ _ _
        refine block ?_
        refine loop (fun f w zz => ∃ (k : Nat) (v : Value) (css : List (List Value)), f 1 = .int .i64 tick ∧ f 2 = .pointer (some ⟨b2, 0, none⟩) ∧ f 11 = .pointer (some ⟨b11, 0, none⟩) ∧ f 12 = .pointer (some ⟨b12, 0, none⟩) ∧ f 13 = .int .i64 (k : Int) ∧ St w0 w [rowI v 46 6 k css.flatten, blk b12 [.int .i64 t.mean, v] 24, blk b11 (spanC (lvlT t (tick + 1))) 38, blk b2 [.int .i64 t.mean, .slice a t.consts.length cap] 24] ∧ (k ≤ t.consts.length) ∧ (Bx.Rows w0 6 RConst css ((t.consts.take k).map shiftC)) ∧ zz = t.consts.length - k) _ ⟨_, rfl, 0, _, [], h1, h2, rfl, rfl, rfl, (hS.nilrow 46 6), (Nat.zero_le _), (trivial), rfl⟩ ?_
        clear hS
        rintro f w _ ⟨k, v, css, h1, h2, h11, h12, h13, hS, hk, hrows, rfl⟩
        refine seq ?_
        refine seq ?_
        refine region ?_
        refine sv (yMove h13) ?_
        refine sv (fa24_1 h2) ?_
        refine sv (yLdB rfl Try.isAgg22 (hS.at _) rfl) ?_
        refine sv (yLen rfl Try.underlying22) ?_
        refine sv (yLss rfl rfl) ?_
        refine nil ?_
        show Code.wp _ _ _ _ _
        refine cond rfl (fun c81 => ?_) (fun c81 => ?_)
        ·
          simp only [Bool.and_eq_true, Bool.or_eq_true, Bool.and_eq_false_iff, Bool.or_eq_false_iff, decide_eq_true_eq, decide_eq_false_iff_not, Bool.not_eq_true, Bool.not_eq_false, Bool.not_not, Bool.not_eq_eq_eq_not, Bool.not_true, Bool.not_false, Bool.false_eq_true, Bool.true_eq_false, ne_eq, Decidable.not_not, not_false_eq_true, not_true_eq_false] at c81
          obtain ⟨c, hx, hd⟩ := drop_of (l := t.consts) (k := k) (by omega)
          obtain ⟨b, o, cs, ha, hlen, hcs, hR⟩ := hel (k) (by omega)
          obtain rfl : c = t.consts[k] := (List.getElem?_eq_some_iff.1 hx).2.symm
          generalize t.consts[k] = c at hx hd hR
          obtain ⟨hv, rfl, hn1, hsl1, hi1, hi2, hi3, hi4⟩ := hR
          have hx0 := hx
          have hcok : ConstOk c := hok.consts c (List.mem_of_getElem? hx)
          obtain ⟨a1, cap1, rfl, hq1, hq2, hel1⟩ := id hsl1
          have hcy := cyc_pos hcok
          have hden := hcok.den
          have hln := hcok.len
          have hsk := hcok.slack
          have hst := hcok.step
          have hof := hcok.off
          have hl12 := hok.len
          have hio : I64 ((c.off + c.step) % (c.den * c.heights.length)) := ⟨by have := Int.emod_nonneg (c.off + c.step) (show c.den * (c.heights.length : Int) ≠ 0 by omega); omega, by have := Int.emod_lt_of_pos (c.off + c.step) (show 0 < c.den * (c.heights.length : Int) by omega); omega⟩
          refine skip ?_
          show Code.wp _ _ _ _ _
          refine seq ?_
          refine block ?_
          refine seq ?_
          refine region ?_
          refine sv (fa24_1 h2) ?_
          refine sv (yLdB rfl Try.isAgg22 (hS.at _) rfl) ?_
          refine sv (yMove h13) ?_
          refine sv (yIxa rfl ha rfl Try.runUnderlying22 Try.sizeOf46 (by omega) (by omega)) ?_
          refine sv (yLdA rfl Try.isAgg46 Try.sizeOf46 (hcs.ext hS.ext) rfl) ?_
          refine salloc hS Try.zeroValue46 rfl ?_; clear hS; intro b14 w hS
          refine sst hS rfl rfl Try.sizeOf46 rfl rfl rfl rfl ?_; clear hS; intro w hS
          refine nil ?_
          show Code.wp _ _ _ _ _
          refine seq ?_
          refine seq ?_
          refine region ?_
          refine sv (fa46_4 rfl) ?_
          refine sv (yLdB rfl Try.isAgg3 (hS.at _) rfl) ?_
          refine sv (fa46_1 rfl) ?_
          refine sv (yLdB rfl Try.isAgg44 (hS.at _) rfl) ?_
          refine sv (yLen rfl Try.underlying44) ?_
          refine sv (yMul rfl rfl ⟨by omega, by omega⟩) ?_
          refine sv (yLss rfl rfl) ?_
          refine nil ?_
          show Code.wp _ _ _ _ _
          refine cond rfl (fun c95 => ?_) (fun c95 => ?_)
          ·
            simp only [Bool.and_eq_true, Bool.or_eq_true, Bool.and_eq_false_iff, Bool.or_eq_false_iff, decide_eq_true_eq, decide_eq_false_iff_not, Bool.not_eq_true, Bool.not_eq_false, Bool.not_not, Bool.not_eq_eq_eq_not, Bool.not_true, Bool.not_false, Bool.false_eq_true, Bool.true_eq_false, ne_eq, Decidable.not_not, not_false_eq_true, not_true_eq_false] at c95
            omega
          ·
            simp only [Bool.and_eq_true, Bool.or_eq_true, Bool.and_eq_false_iff, Bool.or_eq_false_iff, decide_eq_true_eq, decide_eq_false_iff_not, Bool.not_eq_true, Bool.not_eq_false, Bool.not_not, Bool.not_eq_eq_eq_not, Bool.not_true, Bool.not_false, Bool.false_eq_true, Bool.true_eq_false, ne_eq, Decidable.not_not, not_false_eq_true, not_true_eq_false] at c95
            refine skip ?_
            show Code.wp _ _ _ _ _
            refine seq ?_
            refine region ?_
            refine sv (fa46_2 rfl) ?_
            refine sv (yLdB rfl Try.isAgg3 (hS.at _) rfl) ?_
            refine sv (fa46_3 rfl) ?_
            refine sv (yLdB rfl Try.isAgg3 (hS.at _) rfl) ?_
            refine sv (yAdd rfl rfl ⟨by omega, by omega⟩) ?_
            refine sv (fa46_4 rfl) ?_
            refine sv (yLdB rfl Try.isAgg3 (hS.at _) rfl) ?_
            refine sv (fa46_1 rfl) ?_
            refine sv (yLdB rfl Try.isAgg44 (hS.at _) rfl) ?_
            refine sv (yLen rfl Try.underlying44) ?_
            refine sv (yMul rfl rfl ⟨by omega, by omega⟩) ?_
            refine sv (yRemP rfl rfl (by omega) (by omega)) ?_
            refine sv (fa46_2 rfl) ?_
            refine sst hS rfl rfl Try.sizeOf3 rfl rfl rfl rfl ?_; clear hS; intro w hS
            refine nil ?_
            show Code.wp _ _ _ _ _
            refine region ?_
            refine sv (fa24_1 h12) ?_
            refine sv (yLdB rfl Try.isAgg22 (hS.at _) rfl) ?_
            refine sv (yLdBA rfl Try.isAgg46 Try.sizeOf46 (hS.at _) rfl rfl) ?_
            refine sbslice hS Try.underlying22 Try.sizeOf46 rfl Try.zeroValue46 rfl (.cons rfl rfl .nil) rfl ?_; clear hS; intro b112 w hS
            refine sapp (bytes := 72) (size := 6) (v := v) (m := 1) hS rfl rfl Try.underlying22 ti46 rfl rfl rfl rfl (by decide) (blk_cells (hS.at _)) rfl rfl (by omega) (by omega) ?_; clear hS; intro v113 w hS
            refine sv (fa24_1 h12) ?_
            obtain ⟨gr, capr, rfl, _, _, _⟩ := row_some (hS.row v113) (Nat.succ_pos _)
            refine sst hS rfl rfl Try.sizeOf22 rfl rfl rfl rfl ?_; clear hS; intro w hS
            refine nil ?_
            show Code.wp _ _ _ _ _
            refine region ?_
            refine sv (yMove h13) ?_
            refine sv (yAdd rfl rfl ⟨by omega, by omega⟩) ?_
            refine sv (yAsg rfl) ?_
            refine nil ?_
            exact ⟨_, _, rfl, ⟨k + 1, _, css ++ [[.string c.name, .slice a1 c.heights.length cap1, .int .i64 ((c.off + c.step) % (c.den * c.heights.length)), .int .i64 c.step, .int .i64 c.den, .int .i64 c.slack]], h1, h2, h11, h12, rfl, (by rw [flat_snoc]; exact hS.sub (.cons _ (.cons _ (List.Sublist.refl _)))), (by omega), (by rw [take_snoc hx0, List.map_append]; exact hrows.snoc rfl ⟨_, rfl, hn1, hsl1, hio, hi2, hi3, hi4⟩), rfl⟩, by omega⟩
        ·
          simp only [Bool.and_eq_true, Bool.or_eq_true, Bool.and_eq_false_iff, Bool.or_eq_false_iff, decide_eq_true_eq, decide_eq_false_iff_not, Bool.not_eq_true, Bool.not_eq_false, Bool.not_not, Bool.not_eq_eq_eq_not, Bool.not_true, Bool.not_false, Bool.false_eq_true, Bool.true_eq_false, ne_eq, Decidable.not_not, not_false_eq_true, not_true_eq_false] at c81
          obtain rfl : k = t.consts.length := by omega
          rw [List.take_length] at hrows
          refine exit ?_
          show Code.wp _ _ _ _ _
          refine seq ?_
          refine region ?_
          refine sv (yLdBA h12 Try.isAgg24 Try.sizeOf24 (hS.at _) rfl rfl) ?_
          refine sv (yMove h1) ?_
          refine scall Try.call28 (.cons rfl (.cons rfl .nil)) (c_Level (t := ⟨t.mean, t.consts.map shiftC⟩) ⟨_, rfl, hmean, sl_of_row (hS.row v) (hrows.ext RConst.stays hS.ext) (List.length_map _)⟩ hti) ?_
          rintro _ w ⟨rfl, hE⟩; replace hS := hS.step hE; clear hE
          refine sv (yMove rfl) ?_
          refine sv (yExt rfl rfl) ?_
          refine sv (yExt rfl rfl) ?_
          refine salloc hS Try.zeroValue38 rfl ?_; clear hS; intro b15 w hS
          refine sst hS rfl rfl Try.sizeOf38 rfl rfl rfl rfl ?_; clear hS; intro w hS
          refine sv (yAsg rfl) ?_
          refine nil ?_
          show Code.wp _ _ _ _ _
          refine seq ?_
          refine region ?_
          refine sv (yMove rfl) ?_
          refine sv (yEql rfl rfl) ?_
          refine sv (yMove rfl) ?_
          refine sg rfl rfl rfl (fun g => (yLdBA rfl Try.isAgg38 Try.sizeOf38 (hS.at _) rfl rfl)) (fun v124 g124 => ?_)
          refine sg rfl rfl rfl (fun g => (yLdBA h11 Try.isAgg38 Try.sizeOf38 (hS.at _) rfl rfl)) (fun v125 g125 => ?_)
          refine sg rfl rfl rfl (fun g => (eqS38 (g124.1 g) (g125.1 g))) (fun v126 g126 => ?_)
          refine sv (yAnd rfl (fun hB => (g126.1 hB)) rfl) ?_
          refine sv (yMove rfl) ?_
          refine sgc hS rfl rfl rfl Try.call23 (fun g => .nil) (fun g => c_Awake) ?_; clear hS; intro v129 w hS g129
          refine sv (yAnd rfl (fun hB => (g129.1 hB)) rfl) ?_
          refine sv (yAsg rfl) ?_
          refine nil ?_
          show Code.wp _ _ _ _ _
          have hW := levelF_ok (checkT_shift hC) htb
          refine wp_ret ?_
          exact retV (res1 rfl (eqB (by rw [hW, lvl_shift]; simp))) hS.ext
end Go.Proofs.Ytpgmehignepidaa
