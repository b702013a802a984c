/- Walks, part Wk11. -/
import Derived.Test.YtpgmehignepidaaWk10
import Derived.Test.YtpgmehignepidaaP9
set_option linter.all false
namespace Go.Proofs.Ytpgmehignepidaa
open Go Bx
set_option maxHeartbeats 1000000 in
/-- barrage/barragelaw01.TideBetween -/
theorem w_TideBetween {t : Table} {cs : List Value} {tick : Int} {dv : Value} {ds : List Int} {w0 : World} (ht : RTable w0 cs t) (hti : I64 tick) (hds : Sl w0 1 RI8 dv ds) : CV Try.prog 5 #[.agg cs.toArray, .int .i64 tick, dv] w0 (.bool true) := by
  obtain ⟨cv, rfl, hmean, hsl⟩ := id ht
  obtain ⟨a, cap, rfl, hcap, hmx, hel⟩ := id hsl
  obtain ⟨ad, capd, rfl, hcapd, hmxd, held⟩ := id hds
  refine enter Try.func5 rfl Try.ntmps5 rfl ?_
  have hS := St.start w0
  refine seq ?_
  refine region ?_
  refine sbox hS rfl rfl ?_; clear hS; intro b3 w hS
  refine sv (yAsg rfl) ?_
  refine nil ?_
  show Code.wp _ _ _ _ _
  refine seq ?_
  refine region ?_
  refine sv (yLdBA rfl Try.isAgg24 Try.sizeOf24 (hS.at _) rfl rfl) ?_
  refine sv (yMove rfl) ?_
  refine scall Try.call28 (.cons rfl (.cons rfl .nil)) (c_Level (ht.ext hS.ext) hti) ?_
  rintro _ w ⟨rfl, hE⟩; replace hS := hS.step hE; clear hE
  refine sv (yMove rfl) ?_
  refine sv (yExt rfl rfl) ?_
  refine sv (yExt rfl rfl) ?_
  refine salloc hS Try.zeroValue38 rfl ?_; clear hS; intro b7 w hS
  refine sst hS rfl rfl Try.sizeOf38 rfl rfl rfl rfl ?_; clear hS; intro w hS
  refine sv (yAsg rfl) ?_
  refine nil ?_
  show Code.wp _ _ _ _ _
  refine seq ?_
  refine region ?_
  refine sv (yLdBA rfl Try.isAgg24 Try.sizeOf24 (hS.at _) rfl rfl) ?_
  refine scall Try.call19 (.cons rfl .nil) (c_Check (ht.ext hS.ext)) ?_
  rintro _ w ⟨rfl, hE⟩; replace hS := hS.step hE; clear hE
  refine sv (yMove rfl) ?_
  refine sv (yExt rfl rfl) ?_
  refine sv (yExt rfl rfl) ?_
  refine sv (yAsg rfl) ?_
  refine sv (yAsg rfl) ?_
  refine nil ?_
  show Code.wp _ _ _ _ _
  refine seq ?_
  refine seq ?_
  refine region ?_
  refine sv (yMove rfl) ?_
  refine sv (yNeq rfl rfl) ?_
  refine sv (yMove rfl) ?_
  refine sg rfl rfl rfl (fun g => (yMove rfl)) (fun v35 g35 => ?_)
  refine sg rfl rfl rfl (fun g => (yNeq (g35.1 g) rfl)) (fun v36 g36 => ?_)
  refine sv (yOr rfl rfl (fun hB => (g36.1 hB))) ?_
  refine sv (yMove rfl) ?_
  refine sg rfl rfl rfl (fun g => (fa24_1 rfl)) (fun v39 g39 => ?_)
  refine sg rfl rfl rfl (fun g => (yLdB (g39.1 g) Try.isAgg22 (hS.at _) rfl)) (fun v40 g40 => ?_)
  refine sg rfl rfl rfl (fun g => (yLen (g40.1 g) Try.underlying22)) (fun v41 g41 => ?_)
  refine sg rfl rfl rfl (fun g => (yGtr (g41.1 g) rfl)) (fun v42 g42 => ?_)
  refine sv (yOr rfl rfl (fun hB => (g42.1 hB))) ?_
  refine nil ?_
  show Code.wp _ _ _ _ _
  refine cond rfl (fun c43 => ?_) (fun c43 => ?_)
  ·
    simp only [Bool.and_eq_true, Bool.or_eq_true, Bool.and_eq_false_iff, Bool.or_eq_false_iff, decide_eq_true_eq, decide_eq_false_iff_not, Bool.not_eq_true, Bool.not_eq_false, Bool.not_not, Bool.not_eq_eq_eq_not, Bool.not_true, Bool.not_false, Bool.false_eq_true, Bool.true_eq_false, ne_eq, Decidable.not_not, not_false_eq_true, not_true_eq_false] at c43
    refine seq ?_
    refine region ?_
    refine scall Try.call23 .nil c_Awake ?_
    rintro _ w ⟨rfl, hE⟩; replace hS := hS.step hE; clear hE
    refine sv (yAsg rfl) ?_
    refine nil ?_
    show Code.wp _ _ _ _ _
    refine wp_ret (thenR ?_)
    exact retV (res1 rfl rfl) hS.ext
  ·
    simp only [Bool.and_eq_true, Bool.or_eq_true, Bool.and_eq_false_iff, Bool.or_eq_false_iff, decide_eq_true_eq, decide_eq_false_iff_not, Bool.not_eq_true, Bool.not_eq_false, Bool.not_not, Bool.not_eq_eq_eq_not, Bool.not_true, Bool.not_false, Bool.false_eq_true, Bool.true_eq_false, ne_eq, Decidable.not_not, not_false_eq_true, not_true_eq_false] at c43
    obtain ⟨⟨hL, hC⟩, hlen⟩ := c43
    obtain ⟨_, htb, hLe⟩ := levelF_zero hL
    have hok := tableOk_of hC
    rw [hLe] at hS
    have hmb0 := hok.mean
    have h12 := hok.len
    refine skip ?_
    show Code.wp _ _ _ _ _
    refine seq ?_
    refine region ?_
    refine sv (fa24_0 rfl) ?_
    refine sv (yLdB rfl Try.isAgg3 (hS.at _) rfl) ?_
    refine sv (yAsg rfl) ?_
    refine nil ?_
    show Code.wp _ _ _ _ _
    refine seq ?_
    refine region ?_
    refine sv (yLdBA rfl Try.isAgg24 Try.sizeOf24 (hS.at _) rfl rfl) ?_
    refine salloc hS Try.zeroValue24 rfl ?_; clear hS; intro b12 w hS
    refine sst hS rfl rfl Try.sizeOf24 rfl rfl rfl rfl ?_; clear hS; intro w hS
    refine nil ?_
    show Code.wp _ _ _ _ _
    refine seq ?_
    refine region ?_
    refine sv (fa24_1 rfl) ?_
    refine sst hS rfl rfl Try.sizeOf22 rfl rfl rfl rfl ?_; clear hS; intro w hS
    refine nil ?_
    show Code.wp _ _ _ _ _
    refine seq ?_
    refine seq ?_
    refine region ?_
    refine sv (yAsg rfl) ?_
    refine nil ?_
    show Code.wp _ _ _ _ _
    refine block ?_
    refine loop (fun f w m => ∃ (k : Nat) (sum : Int) (v : Value) (css : List (List Value)), f 1 = .int .i64 tick ∧ f 2 = .slice ad ds.length capd ∧ f 3 = .pointer (some ⟨b3, 0, none⟩) ∧ f 7 = .pointer (some ⟨b7, 0, none⟩) ∧ f 11 = .int .i64 sum ∧ f 12 = .pointer (some ⟨b12, 0, none⟩) ∧ f 13 = .int .i64 (k : Int) ∧ St w0 w [rowI v 46 6 (k) (css).flatten, blk b12 [.int .i64 t.mean, v] 24, blk b7 (spanC (lvlT t tick)) 38, blk b3 [.int .i64 t.mean, .slice a t.consts.length cap] 24] ∧ (k ≤ t.consts.length) ∧ (Bx.Rows w0 6 RConst css (wides 0 (t.consts.take k))) ∧ (Bd sum (lvl t.mean (t.consts.take k) tick).lo (lvl t.mean (t.consts.take k) tick).hi) ∧ m = t.consts.length - k) _ ⟨_, rfl, 0, _, _, [], rfl, rfl, rfl, rfl, rfl, rfl, rfl, (hS.nilrow 46 6), (Nat.zero_le _), (trivial), (⟨Int.le_refl _, Int.le_refl _⟩), rfl⟩ ?_
    clear hS
    rintro f w _ ⟨k, sum, v, css, h1, h2, h3, h7, h11, h12, h13, hS, hk, hrows, hsum, rfl⟩
    refine seq ?_
    refine seq ?_
    refine region ?_
    refine sv (yMove h13) ?_
    refine sv (fa24_1 h3) ?_
    refine sv (yLdB rfl Try.isAgg22 (hS.at _) rfl) ?_
    refine sv (yLen rfl Try.underlying22) ?_
    refine sv (yLss rfl rfl) ?_
    refine nil ?_
    show Code.wp _ _ _ _ _
    refine cond rfl (fun c53 => ?_) (fun c53 => ?_)
    ·
      simp only [Bool.and_eq_true, Bool.or_eq_true, Bool.and_eq_false_iff, Bool.or_eq_false_iff, decide_eq_true_eq, decide_eq_false_iff_not, Bool.not_eq_true, Bool.not_eq_false, Bool.not_not, Bool.not_eq_eq_eq_not, Bool.not_true, Bool.not_false, Bool.false_eq_true, Bool.true_eq_false, ne_eq, Decidable.not_not, not_false_eq_true, not_true_eq_false] at c53
      have hlb := lvl_bd hok.mean (t.consts.take k) tick (fun x hx => hok.consts x (List.mem_of_mem_take hx))
      have htl : (t.consts.take k).length ≤ 12 := by simp; omega
      obtain ⟨c, hx, hd⟩ := drop_of (l := t.consts) (k := k) (by omega)
      obtain ⟨b, o, cs, ha, hlen, hcs, hR⟩ := hel (k) (by omega)
      obtain rfl : c = t.consts[k] := (List.getElem?_eq_some_iff.1 hx).2.symm
      generalize t.consts[k] = c at hx hd hR
      obtain ⟨hv, rfl, hn1, hsl1, hi1, hi2, hi3, hi4⟩ := hR
      have hx0 := hx
      have hcok : ConstOk c := hok.consts c (List.mem_of_getElem? hx)
      obtain ⟨a1, cap1, rfl, hq1, hq2, hel1⟩ := id hsl1
      have hpb := pAt_bd hcok tick
      generalize hpe : pAt c tick = p at hpb
      have hqb := quot_bd hcok hpb
      have hcy := cyc_pos hcok
      have hden := hcok.den
      have hln := hcok.len
      have hsk := hcok.slack
      have hib := interp_bd hcok hpb
      have hm1 : Bd ((p / c.den + 1) % c.heights.length) 0 (c.heights.length - 1) := ⟨Int.emod_nonneg _ (by omega), by have := Int.emod_lt_of_pos (p / c.den + 1) (show 0 < (c.heights.length : Int) by omega); omega⟩
      have hh0 := height_bd hcok (p / c.den).toNat
      have hh1 := height_bd hcok ((p / c.den + 1) % c.heights.length).toNat
      have hmb := mul_bd (B := 1000) hh0 (show Bd (c.den - p % c.den) 0 1000 by omega) (by decide)
      have hmb2 := mul_bd (B := 1000) hh1 (show Bd (p % c.den) 0 1000 by omega) (by decide)
      obtain ⟨bx, ox, csx, hax, hlenx, hcsx, hRx⟩ := hel1 (p / c.den).toNat (by omega)
      obtain ⟨rfl, _⟩ := hRx
      rw [show c.heights[(p / c.den).toNat] = c.heights.getD (p / c.den).toNat 0 from getD_at _ _ (by omega)] at hcsx
      obtain ⟨bu, ou, csu, hau, hlenu, hcsu, hRu⟩ := hel1 ((p / c.den + 1) % c.heights.length).toNat (by omega)
      obtain ⟨rfl, _⟩ := hRu
      rw [show c.heights[((p / c.den + 1) % c.heights.length).toNat] = c.heights.getD ((p / c.den + 1) % c.heights.length).toNat 0 from getD_at _ _ (by omega)] at hcsu
      refine skip ?_
      show Code.wp _ _ _ _ _
      refine seq ?_
      refine block ?_
      refine seq ?_
      refine region ?_
      refine sv (fa24_1 h3) ?_
      refine sv (yLdB rfl Try.isAgg22 (hS.at _) rfl) ?_
      refine sv (yMove h13) ?_
      refine sv (yIxa rfl ha rfl Try.runUnderlying22 Try.sizeOf46 (by omega) (by omega)) ?_
      refine sv (yLdA rfl Try.isAgg46 Try.sizeOf46 (hcs.ext hS.ext) rfl) ?_
      refine salloc hS Try.zeroValue46 rfl ?_; clear hS; intro b14 w hS
      refine sst hS rfl rfl Try.sizeOf46 rfl rfl rfl rfl ?_; clear hS; intro w hS
      refine nil ?_
      show Code.wp _ _ _ _ _
      refine seq ?_
      refine region ?_
      refine sv (fa46_1 rfl) ?_
      refine sv (yLdB rfl Try.isAgg44 (hS.at _) rfl) ?_
      refine sv (yLen rfl Try.underlying44) ?_
      refine sv (yAsg rfl) ?_
      refine nil ?_
      show Code.wp _ _ _ _ _
      refine seq ?_
      refine seq ?_
      refine region ?_
      refine sv (yMove rfl) ?_
      refine sv (yEql rfl rfl) ?_
      refine sv (yMove rfl) ?_
      refine sg rfl rfl rfl (fun g => (fa46_4 rfl)) (fun v67 g67 => ?_)
      refine sg rfl rfl rfl (fun g => (yLdB (g67.1 g) Try.isAgg3 (hS.at _) rfl)) (fun v68 g68 => ?_)
      refine sg rfl rfl rfl (fun g => (yLss (g68.1 g) rfl)) (fun v69 g69 => ?_)
      refine sv (yOr rfl rfl (fun hB => (g69.1 hB))) ?_
      refine sv (yMove rfl) ?_
      refine sg rfl rfl rfl (fun g => (fa46_4 rfl)) (fun v72 g72 => ?_)
      refine sg rfl rfl rfl (fun g => (yLdB (g72.1 g) Try.isAgg3 (hS.at _) rfl)) (fun v73 g73 => ?_)
      refine sg rfl rfl rfl (fun g => (yGtr (g73.1 g) rfl)) (fun v74 g74 => ?_)
      refine sv (yOr rfl rfl (fun hB => (g74.1 hB))) ?_
      refine sv (yMove rfl) ?_
      refine sg rfl rfl rfl (fun g => (yMove rfl)) (fun v77 g77 => ?_)
      refine sg rfl rfl rfl (fun g => (yGtr (g77.1 g) rfl)) (fun v78 g78 => ?_)
      refine sv (yOr rfl rfl (fun hB => (g78.1 hB))) ?_
      refine nil ?_
      show Code.wp _ _ _ _ _
      refine cond rfl (fun c79 => ?_) (fun c79 => ?_)
      ·
        exfalso
        simp only [Bool.and_eq_true, Bool.or_eq_true, Bool.and_eq_false_iff, Bool.or_eq_false_iff, decide_eq_true_eq, decide_eq_false_iff_not, Bool.not_eq_true, Bool.not_eq_false, Bool.not_not, Bool.not_eq_eq_eq_not, Bool.not_true, Bool.not_false, Bool.false_eq_true, Bool.true_eq_false, ne_eq, Decidable.not_not, not_false_eq_true, not_true_eq_false] at c79
        omega
      ·
        refine skip ?_
        show Code.wp _ _ _ _ _
        refine seq ?_
        refine region ?_
        refine sv (fa46_2 rfl) ?_
        refine sv (yLdB rfl Try.isAgg3 (hS.at _) rfl) ?_
        refine sv (fa46_3 rfl) ?_
        refine sv (yLdB rfl Try.isAgg3 (hS.at _) rfl) ?_
        refine sv (yMove h1) ?_
        refine sv (yMul rfl rfl (by have := mul_bd (a := tick) (b := c.step) (A := 200000) (B := 100000) ⟨by omega, by omega⟩ (by have := hcok.step; omega) (by decide); rw [Int.mul_comm] at this; exact ⟨by omega, by omega⟩)) ?_
        have hmt := mul_bd (a := tick) (b := c.step) (A := 200000) (B := 100000) ⟨by omega, by omega⟩ (by have := hcok.step; omega) (by decide)
        rw [Int.mul_comm] at hmt
        have hof := hcok.off
        have hnn : 0 ≤ c.step * tick := Int.mul_nonneg (by have := hcok.step; omega) htb.1
        refine sv (yAdd rfl rfl ⟨by omega, by omega⟩) ?_
        refine sv (fa46_4 rfl) ?_
        refine sv (yLdB rfl Try.isAgg3 (hS.at _) rfl) ?_
        refine sv (yMove rfl) ?_
        refine sv (yMul rfl rfl ⟨by omega, by omega⟩) ?_
        refine sv (Y.to (yRemP rfl rfl (by omega) (by omega)) (show Value.int .i64 ((c.off + c.step * tick) % (c.den * c.heights.length)) = .int .i64 p by rw [← hpe]; rfl)) ?_
        refine sv (yAsg rfl) ?_
        refine nil ?_
        show Code.wp _ _ _ _ _
        refine seq ?_
        refine seq ?_
        refine region ?_
        refine sv (yMove rfl) ?_
        refine sv (yLss rfl rfl) ?_
        refine nil ?_
        show Code.wp _ _ _ _ _
        refine cond rfl (fun c93 => ?_) (fun c93 => ?_)
        ·
          exact absurd (of_decide_eq_true c93) (by omega)
        ·
          refine skip ?_
          show Code.wp _ _ _ _ _
          refine seq ?_
          refine region_draw mixed (by kernel_rfl) hS ?_
          refine qv (fun w hS => (fa46_1 rfl)) ?_
          refine qv (fun w hS => (yLdB rfl Try.isAgg44 (hS.at _) rfl)) ?_
          refine qv (fun w hS => (yMove rfl)) ?_
          refine qv (fun w hS => (fa46_4 rfl)) ?_
          refine qv (fun w hS => (yLdB rfl Try.isAgg3 (hS.at _) rfl)) ?_
          refine qv (fun w hS => (yQuoP rfl rfl ⟨by omega, by omega⟩ (by omega))) ?_
          refine qv (fun w hS => (yIxa rfl hax rfl Try.runUnderlying44 Try.sizeOf3 (by omega) (by omega))) ?_
          refine qv (fun w hS => (yLd rfl Try.isAgg3 ((hcsx.ext hS.ext).one))) ?_
          refine qv (fun w hS => (fa46_4 rfl)) ?_
          refine qv (fun w hS => (yLdB rfl Try.isAgg3 (hS.at _) rfl)) ?_
          refine qv (fun w hS => (yMove rfl)) ?_
          refine qv (fun w hS => (fa46_4 rfl)) ?_
          refine qv (fun w hS => (yLdB rfl Try.isAgg3 (hS.at _) rfl)) ?_
          refine qv (fun w hS => (yRemP rfl rfl (by omega) (by omega))) ?_
          refine qv (fun w hS => (ySub rfl rfl ⟨by omega, by omega⟩)) ?_
          refine qv (fun w hS => (yMul rfl rfl ⟨by omega, by omega⟩)) ?_
          refine qv (fun w hS => (fa46_1 rfl)) ?_
          refine qv (fun w hS => (yLdB rfl Try.isAgg44 (hS.at _) rfl)) ?_
          refine qv (fun w hS => (yMove rfl)) ?_
          refine qv (fun w hS => (fa46_4 rfl)) ?_
          refine qv (fun w hS => (yLdB rfl Try.isAgg3 (hS.at _) rfl)) ?_
          refine qv (fun w hS => (yQuoP rfl rfl ⟨by omega, by omega⟩ (by omega))) ?_
          refine qv (fun w hS => (yAdd rfl rfl ⟨by omega, by omega⟩)) ?_
          refine qv (fun w hS => (yMove rfl)) ?_
          refine qv (fun w hS => (yRemP rfl rfl (by omega) (by omega))) ?_
          refine qv (fun w hS => (yIxa rfl hau rfl Try.runUnderlying44 Try.sizeOf3 (by omega) (by omega))) ?_
          refine qv (fun w hS => (yLd rfl Try.isAgg3 ((hcsu.ext hS.ext).one))) ?_
          refine qv (fun w hS => (yMove rfl)) ?_
          refine qv (fun w hS => (fa46_4 rfl)) ?_
          refine qv (fun w hS => (yLdB rfl Try.isAgg3 (hS.at _) rfl)) ?_
          refine qv (fun w hS => (yRemP rfl rfl (by omega) (by omega))) ?_
          refine qv (fun w hS => (yMul rfl rfl ⟨by omega, by omega⟩)) ?_
          refine qv (fun w hS => (Y.to (yAdd rfl rfl ⟨by omega, by omega⟩) (show Value.int .i64 _ = .int .i64 (interp c p) from rfl))) ?_
          refine qv (fun w hS => (yAsg rfl)) ?_
          clear hS; refine qnil (fun w hS => ?_)
          show Code.wp _ _ _ _ _
          refine seq ?_
          refine cutK (fun f => f 1 = .int .i64 tick ∧ f 2 = .slice ad ds.length capd ∧ f 3 = .pointer (some ⟨b3, 0, none⟩) ∧ f 7 = .pointer (some ⟨b7, 0, none⟩) ∧ f 11 = .int .i64 sum ∧ f 12 = .pointer (some ⟨b12, 0, none⟩) ∧ f 13 = .int .i64 (k : Int) ∧ f 14 = .pointer (some ⟨b14, 0, none⟩) ∧ f 17 = .int .i64 (interp c p) ∧ True) ⟨h1, h2, h3, h7, h11, h12, h13, rfl, rfl, trivial⟩ ?_
          rintro f ⟨h1, h2, h3, h7, h11, h12, h13, h14, h17, -⟩
          refine region ?_
          refine sv (yAsg rfl) ?_
          refine nil ?_
          show Code.wp _ _ _ _ _
          refine seq ?_
          refine seq ?_
          refine region ?_
          refine sv (yMove h13) ?_
          refine sv (yMove h2) ?_
          refine sv (yLen rfl Try.underlying42) ?_
          refine sv (yLss rfl rfl) ?_
          refine nil ?_
          show Code.wp _ _ _ _ _
          refine cond rfl (fun c130 => ?_) (fun c130 => ?_)
          ·
            simp only [Bool.and_eq_true, Bool.or_eq_true, Bool.and_eq_false_iff, Bool.or_eq_false_iff, decide_eq_true_eq, decide_eq_false_iff_not, Bool.not_eq_true, Bool.not_eq_false, Bool.not_not, Bool.not_eq_eq_eq_not, Bool.not_true, Bool.not_false, Bool.false_eq_true, Bool.true_eq_false, ne_eq, Decidable.not_not, not_false_eq_true, not_true_eq_false] at c130
            obtain ⟨bz, oz, csz, haz, hlenz, hcsz, hRz⟩ := held k (by omega)
            obtain ⟨rfl, he1, he2⟩ := hRz
            generalize ds[k] = e at hcsz he1 he2
            have hmd := mul_bd (a := max e (-127)) (b := c.slack) (A := 127) (B := 1000) ⟨by omega, by omega⟩ ⟨by omega, by omega⟩ (by decide)
            rw [Int.mul_comm] at hmd
            obtain ⟨D, hD⟩ : ∃ D, D = (c.slack * max e (-127)).tdiv 127 := ⟨_, rfl⟩
            have hDb : Bd D (-1000000000000) 1000000000000 := by rw [hD]; exact tdiv_bd (by decide) ⟨by omega, by omega⟩
            refine region_draw mixed (by kernel_rfl) hS ?_
            refine qv (fun w hS => (fa46_5 h14)) ?_
            refine qv (fun w hS => (yLdB rfl Try.isAgg3 (hS.at _) rfl)) ?_
            refine qv (fun w hS => (yMove h2)) ?_
            refine qv (fun w hS => (yMove h13)) ?_
            refine qv (fun w hS => (yIxa rfl haz rfl Try.runUnderlying42 Try.sizeOf47 (by omega) (by omega))) ?_
            refine qv (fun w hS => (yLd rfl Try.isAgg47 ((hcsz.ext hS.ext).one))) ?_
            refine qv (fun w hS => (yToI rfl Try.underlying47 Try.underlying3 ⟨by omega, by omega⟩)) ?_
            refine qv (fun w hS => (yMax rfl rfl)) ?_
            refine qv (fun w hS => (yMul rfl rfl ⟨by omega, by omega⟩)) ?_
            refine qv (fun w hS => (Y.to (yQuo rfl rfl (by decide) ⟨by omega, by omega⟩) (show Value.int .i64 _ = .int .i64 D by rw [hD]))) ?_
            refine qv (fun w hS => (yAsg rfl)) ?_
            clear hS; refine qnil (fun w hS => ?_)
            show Code.wp _ _ _ _ _
            refine seq ?_
            refine region ?_
            refine sv (yMove h17) ?_
            refine sv (fa46_4 h14) ?_
            refine sv (yLdB rfl Try.isAgg3 (hS.at _) rfl) ?_
            have hqd := tdiv_bd (a := interp c p) (b := c.den) (by omega) ⟨by omega, by omega⟩
            obtain ⟨X, hX⟩ : ∃ X, X = (interp c p).tdiv c.den + D := ⟨_, rfl⟩
            have hXb : Bd X (-2000000000000) 2000000000000 := by omega
            have hXm := mul_bd (b := c.den) (A := 2000000000000) (B := 1000) hXb ⟨by omega, by omega⟩ (by decide)
            have hsd := mul_bd (a := c.slack) (b := c.den) (A := 1000) (B := 1000) ⟨by omega, by omega⟩ ⟨by omega, by omega⟩ (by decide)
            refine sv (yQuo rfl rfl (by omega) ⟨by omega, by omega⟩) ?_
            refine sv (yMove rfl) ?_
            refine sv (Y.to (yAdd rfl rfl ⟨by omega, by omega⟩) (show Value.int .i64 _ = .int .i64 X by rw [hX, hD])) ?_
            refine sv (yAsg rfl) ?_
            refine nil ?_
            show Code.wp _ _ _ _ _
            refine seq ?_
            refine seq ?_
            refine region ?_
            refine sv (yMove rfl) ?_
            refine sv (fa46_4 h14) ?_
            refine sv (yLdB rfl Try.isAgg3 (hS.at _) rfl) ?_
            refine sv (yMul rfl rfl ⟨by omega, by omega⟩) ?_
            refine sv (yMove h17) ?_
            refine sv (ySub rfl rfl ⟨by omega, by omega⟩) ?_
            refine sv (fa46_5 h14) ?_
            refine sv (yLdB rfl Try.isAgg3 (hS.at _) rfl) ?_
            refine sv (fa46_4 h14) ?_
            refine sv (yLdB rfl Try.isAgg3 (hS.at _) rfl) ?_
            refine sv (yMul rfl rfl ⟨by omega, by omega⟩) ?_
            refine sv (yGtr rfl rfl) ?_
            refine sv (yMove rfl) ?_
            refine sg rfl rfl rfl (fun g => (yMove h17)) (fun v160 g160 => ?_)
            refine sg rfl rfl rfl (fun g => (yMove rfl)) (fun v161 g161 => ?_)
            refine sg rfl rfl rfl (fun g => (fa46_4 h14)) (fun v162 g162 => ?_)
            refine sg rfl rfl rfl (fun g => (yLdB (g162.1 g) Try.isAgg3 (hS.at _) rfl)) (fun v163 g163 => ?_)
            refine sg rfl rfl rfl (fun g => (yMul (g161.1 g) (g163.1 g) ⟨by omega, by omega⟩)) (fun v164 g164 => ?_)
            refine sg rfl rfl rfl (fun g => (ySub (g160.1 g) (g164.1 g) ⟨by omega, by omega⟩)) (fun v165 g165 => ?_)
            refine sg rfl rfl rfl (fun g => (fa46_5 h14)) (fun v166 g166 => ?_)
            refine sg rfl rfl rfl (fun g => (yLdB (g166.1 g) Try.isAgg3 (hS.at _) rfl)) (fun v167 g167 => ?_)
            refine sg rfl rfl rfl (fun g => (fa46_4 h14)) (fun v168 g168 => ?_)
            refine sg rfl rfl rfl (fun g => (yLdB (g168.1 g) Try.isAgg3 (hS.at _) rfl)) (fun v169 g169 => ?_)
            refine sg rfl rfl rfl (fun g => (yMul (g167.1 g) (g169.1 g) ⟨by omega, by omega⟩)) (fun v170 g170 => ?_)
            refine sg rfl rfl rfl (fun g => (yGtr (g165.1 g) (g170.1 g))) (fun v171 g171 => ?_)
            refine sv (yOr rfl rfl (fun hB => (g171.1 hB))) ?_
            refine nil ?_
            show Code.wp _ _ _ _ _
            refine cond rfl (fun c172 => ?_) (fun c172 => ?_)
            ·
              simp only [Bool.and_eq_true, Bool.or_eq_true, Bool.and_eq_false_iff, Bool.or_eq_false_iff, decide_eq_true_eq, decide_eq_false_iff_not, Bool.not_eq_true, Bool.not_eq_false, Bool.not_not, Bool.not_eq_eq_eq_not, Bool.not_true, Bool.not_false, Bool.false_eq_true, Bool.true_eq_false, ne_eq, Decidable.not_not, not_false_eq_true, not_true_eq_false] at c172
              refine seq ?_
              refine region ?_
              refine sv (yMove h17) ?_
              refine sv (fa46_4 h14) ?_
              refine sv (yLdB rfl Try.isAgg3 (hS.at _) rfl) ?_
              refine sv (yQuo rfl rfl (by omega) ⟨by omega, by omega⟩) ?_
              refine sv (yAsg rfl) ?_
              refine nil ?_
              show Code.wp _ _ _ _ _
              refine seq ?_
              refine region ?_
              refine sv (yMove h17) ?_
              refine sv (fa46_4 h14) ?_
              refine sv (yLdB rfl Try.isAgg3 (hS.at _) rfl) ?_
              refine sv (yRem rfl rfl (by omega)) ?_
              refine sv (yNeq rfl rfl) ?_
              refine sv (yMove rfl) ?_
              refine sg rfl rfl rfl (fun g => (fa46_5 h14)) (fun v183 g183 => ?_)
              refine sg rfl rfl rfl (fun g => (yLdB (g183.1 g) Try.isAgg3 (hS.at _) rfl)) (fun v184 g184 => ?_)
              refine sg rfl rfl rfl (fun g => (yEql (g184.1 g) rfl)) (fun v185 g185 => ?_)
              refine sv (yAnd rfl (fun hB => (g185.1 hB)) rfl) ?_
              refine nil ?_
              show Code.wp _ _ _ _ _
              refine cond rfl (fun c186 => ?_) (fun c186 => ?_)
              ·
                simp only [Bool.and_eq_true, Bool.or_eq_true, Bool.and_eq_false_iff, Bool.or_eq_false_iff, decide_eq_true_eq, decide_eq_false_iff_not, Bool.not_eq_true, Bool.not_eq_false, Bool.not_not, Bool.not_eq_eq_eq_not, Bool.not_true, Bool.not_false, Bool.false_eq_true, Bool.true_eq_false, ne_eq, Decidable.not_not, not_false_eq_true, not_true_eq_false] at c186
                refine seq ?_
                refine region ?_
                refine scall Try.call23 .nil c_Awake ?_
                rintro _ w ⟨rfl, hE⟩; replace hS := hS.step hE; clear hE
                refine sv (yAsg rfl) ?_
                refine nil ?_
                show Code.wp _ _ _ _ _
                refine wp_ret (thenR (blockR (thenR (thenR (blockR (thenR ?_))))))
                exact retV (res1 rfl rfl) hS.ext
              ·
                simp only [Bool.and_eq_true, Bool.or_eq_true, Bool.and_eq_false_iff, Bool.or_eq_false_iff, decide_eq_true_eq, decide_eq_false_iff_not, Bool.not_eq_true, Bool.not_eq_false, Bool.not_not, Bool.not_eq_eq_eq_not, Bool.not_true, Bool.not_false, Bool.false_eq_true, Bool.true_eq_false, ne_eq, Decidable.not_not, not_false_eq_true, not_true_eq_false] at c186
                have hx := between_B (s := c.slack) (h := interp c p) (d := c.den) (by omega) (by omega)
                have hsum2 := sum_take hx0 hsum (by rw [hpe]; exact hx)
                refine skip ?_
                show Code.wp _ _ _ _ _
                refine seq ?_
                refine cutK (fun f => f 1 = .int .i64 tick ∧ f 2 = .slice ad ds.length capd ∧ f 3 = .pointer (some ⟨b3, 0, none⟩) ∧ f 7 = .pointer (some ⟨b7, 0, none⟩) ∧ f 11 = .int .i64 sum ∧ f 12 = .pointer (some ⟨b12, 0, none⟩) ∧ f 13 = .int .i64 (k : Int) ∧ f 14 = .pointer (some ⟨b14, 0, none⟩) ∧ f 19 = .int .i64 ((interp c p).tdiv c.den) ∧ True) ⟨h1, h2, h3, h7, h11, h12, h13, h14, rfl, trivial⟩ ?_
                rintro f ⟨h1, h2, h3, h7, h11, h12, h13, h14, h19, -⟩
                refine region ?_
                refine sv (yMove h11) ?_
                refine sv (yMove h19) ?_
                refine sv (yAdd rfl rfl ⟨by omega, by omega⟩) ?_
                refine sv (yAsg rfl) ?_
                refine nil ?_
                show Code.wp _ _ _ _ _
                refine seq ?_
                refine region ?_
                refine sv (fa46_5 h14) ?_
                refine sv (yLdB rfl Try.isAgg3 (hS.at _) rfl) ?_
                refine sv (yAdd rfl rfl ⟨by omega, by omega⟩) ?_
                refine sv (yMove h13) ?_
                refine sv (yAdd rfl rfl ⟨by omega, by omega⟩) ?_
                refine sv (yMin rfl rfl) ?_
                refine sv (fa46_5 h14) ?_
                refine sst hS rfl rfl Try.sizeOf3 rfl rfl rfl rfl ?_; clear hS; intro w hS
                refine nil ?_
                show Code.wp _ _ _ _ _
                refine region ?_
                refine sv (fa24_1 h12) ?_
                refine sv (yLdB rfl Try.isAgg22 (hS.at _) rfl) ?_
                refine sv (yLdBA h14 Try.isAgg46 Try.sizeOf46 (hS.at _) rfl rfl) ?_
                refine sbslice hS Try.underlying22 Try.sizeOf46 rfl Try.zeroValue46 rfl (.cons rfl rfl .nil) rfl ?_; clear hS; intro b201 w hS
                refine sapp (bytes := 72) (size := 6) (v := v) (m := 1) hS rfl rfl Try.underlying22 ti46 rfl rfl rfl rfl (by decide) (blk_cells (hS.at _)) rfl rfl (by omega) (by omega) ?_; clear hS; intro v202 w hS
                refine sv (fa24_1 h12) ?_
                obtain ⟨gr, capr, rfl, _, _, _⟩ := row_some (hS.row v202) (Nat.succ_pos _)
                refine sst hS rfl rfl Try.sizeOf22 rfl rfl rfl rfl ?_; clear hS; intro w hS
                refine nil ?_
                show Code.wp _ _ _ _ _
                refine region ?_
                refine sv (yMove h13) ?_
                refine sv (yAdd rfl rfl ⟨by omega, by omega⟩) ?_
                refine sv (yAsg rfl) ?_
                refine nil ?_
                exact ⟨_, _, rfl, ⟨k + 1, _, _, css ++ [[.string c.name, .slice a1 c.heights.length cap1, .int .i64 c.off, .int .i64 c.step, .int .i64 c.den, .int .i64 (min 1000 (c.slack + 1 + (k : Int)))]], h1, h2, h3, h7, rfl, h12, rfl, (by rw [flat_snoc]; exact hS.sub (.cons _ (.cons _ (List.Sublist.refl _)))), (by omega), (by rw [take_snoc hx0, wides_snoc, show 0 + (t.consts.take k).length = k by simp; omega]; exact hrows.snoc rfl ⟨_, rfl, hn1, hsl1, hi1, hi2, hi3, show I64 (min 1000 (c.slack + 1 + (k : Int))) from ⟨by omega, by omega⟩⟩), (hsum2), rfl⟩, by omega⟩
            ·
              simp only [Bool.and_eq_true, Bool.or_eq_true, Bool.and_eq_false_iff, Bool.or_eq_false_iff, decide_eq_true_eq, decide_eq_false_iff_not, Bool.not_eq_true, Bool.not_eq_false, Bool.not_not, Bool.not_eq_eq_eq_not, Bool.not_true, Bool.not_false, Bool.false_eq_true, Bool.true_eq_false, ne_eq, Decidable.not_not, not_false_eq_true, not_true_eq_false] at c172
              have hx := between_A (s := c.slack) (x := X) (h := interp c p) (d := c.den) (by omega) (by omega) (by omega)
              have hsum2 := sum_take hx0 hsum (by rw [hpe]; exact hx)
              refine skip ?_
              show Code.wp _ _ _ _ _
              refine seq ?_
              refine cutK (fun f => f 1 = .int .i64 tick ∧ f 2 = .slice ad ds.length capd ∧ f 3 = .pointer (some ⟨b3, 0, none⟩) ∧ f 7 = .pointer (some ⟨b7, 0, none⟩) ∧ f 11 = .int .i64 sum ∧ f 12 = .pointer (some ⟨b12, 0, none⟩) ∧ f 13 = .int .i64 (k : Int) ∧ f 14 = .pointer (some ⟨b14, 0, none⟩) ∧ f 19 = .int .i64 X ∧ True) ⟨h1, h2, h3, h7, h11, h12, h13, h14, rfl, trivial⟩ ?_
              rintro f ⟨h1, h2, h3, h7, h11, h12, h13, h14, h19, -⟩
              refine region ?_
              refine sv (yMove h11) ?_
              refine sv (yMove h19) ?_
              refine sv (yAdd rfl rfl ⟨by omega, by omega⟩) ?_
              refine sv (yAsg rfl) ?_
              refine nil ?_
              show Code.wp _ _ _ _ _
              refine seq ?_
              refine region ?_
              refine sv (fa46_5 h14) ?_
              refine sv (yLdB rfl Try.isAgg3 (hS.at _) rfl) ?_
              refine sv (yAdd rfl rfl ⟨by omega, by omega⟩) ?_
              refine sv (yMove h13) ?_
              refine sv (yAdd rfl rfl ⟨by omega, by omega⟩) ?_
              refine sv (yMin rfl rfl) ?_
              refine sv (fa46_5 h14) ?_
              refine sst hS rfl rfl Try.sizeOf3 rfl rfl rfl rfl ?_; clear hS; intro w hS
              refine nil ?_
              show Code.wp _ _ _ _ _
              refine region ?_
              refine sv (fa24_1 h12) ?_
              refine sv (yLdB rfl Try.isAgg22 (hS.at _) rfl) ?_
              refine sv (yLdBA h14 Try.isAgg46 Try.sizeOf46 (hS.at _) rfl rfl) ?_
              refine sbslice hS Try.underlying22 Try.sizeOf46 rfl Try.zeroValue46 rfl (.cons rfl rfl .nil) rfl ?_; clear hS; intro b201 w hS
              refine sapp (bytes := 72) (size := 6) (v := v) (m := 1) hS rfl rfl Try.underlying22 ti46 rfl rfl rfl rfl (by decide) (blk_cells (hS.at _)) rfl rfl (by omega) (by omega) ?_; clear hS; intro v202 w hS
              refine sv (fa24_1 h12) ?_
              obtain ⟨gr, capr, rfl, _, _, _⟩ := row_some (hS.row v202) (Nat.succ_pos _)
              refine sst hS rfl rfl Try.sizeOf22 rfl rfl rfl rfl ?_; clear hS; intro w hS
              refine nil ?_
              show Code.wp _ _ _ _ _
              refine region ?_
              refine sv (yMove h13) ?_
              refine sv (yAdd rfl rfl ⟨by omega, by omega⟩) ?_
              refine sv (yAsg rfl) ?_
              refine nil ?_
              exact ⟨_, _, rfl, ⟨k + 1, _, _, css ++ [[.string c.name, .slice a1 c.heights.length cap1, .int .i64 c.off, .int .i64 c.step, .int .i64 c.den, .int .i64 (min 1000 (c.slack + 1 + (k : Int)))]], h1, h2, h3, h7, rfl, h12, rfl, (by rw [flat_snoc]; exact hS.sub (.cons _ (.cons _ (List.Sublist.refl _)))), (by omega), (by rw [take_snoc hx0, wides_snoc, show 0 + (t.consts.take k).length = k by simp; omega]; exact hrows.snoc rfl ⟨_, rfl, hn1, hsl1, hi1, hi2, hi3, show I64 (min 1000 (c.slack + 1 + (k : Int))) from ⟨by omega, by omega⟩⟩), (hsum2), rfl⟩, by omega⟩
          ·
            simp only [Bool.and_eq_true, Bool.or_eq_true, Bool.and_eq_false_iff, Bool.or_eq_false_iff, decide_eq_true_eq, decide_eq_false_iff_not, Bool.not_eq_true, Bool.not_eq_false, Bool.not_not, Bool.not_eq_eq_eq_not, Bool.not_true, Bool.not_false, Bool.false_eq_true, Bool.true_eq_false, ne_eq, Decidable.not_not, not_false_eq_true, not_true_eq_false] at c130
            obtain ⟨D, hD⟩ : ∃ D : Int, D = 0 := ⟨_, rfl⟩
            have hDb : Bd D (-1000000000000) 1000000000000 := by rw [hD]; exact ⟨by decide, by decide⟩
            refine skip ?_
            show Code.wp _ _ _ _ _
            refine seq ?_
            refine region ?_
            refine sv (yMove h17) ?_
            refine sv (fa46_4 h14) ?_
            refine sv (yLdB rfl Try.isAgg3 (hS.at _) rfl) ?_
            have hqd := tdiv_bd (a := interp c p) (b := c.den) (by omega) ⟨by omega, by omega⟩
            obtain ⟨X, hX⟩ : ∃ X, X = (interp c p).tdiv c.den + D := ⟨_, rfl⟩
            have hXb : Bd X (-2000000000000) 2000000000000 := by omega
            have hXm := mul_bd (b := c.den) (A := 2000000000000) (B := 1000) hXb ⟨by omega, by omega⟩ (by decide)
            have hsd := mul_bd (a := c.slack) (b := c.den) (A := 1000) (B := 1000) ⟨by omega, by omega⟩ ⟨by omega, by omega⟩ (by decide)
            refine sv (yQuo rfl rfl (by omega) ⟨by omega, by omega⟩) ?_
            refine sv (yMove rfl) ?_
            refine sv (Y.to (yAdd rfl rfl ⟨by omega, by omega⟩) (show Value.int .i64 _ = .int .i64 X by rw [hX, hD])) ?_
            refine sv (yAsg rfl) ?_
            refine nil ?_
            show Code.wp _ _ _ _ _
            refine seq ?_
            refine seq ?_
            refine region ?_
            refine sv (yMove rfl) ?_
            refine sv (fa46_4 h14) ?_
            refine sv (yLdB rfl Try.isAgg3 (hS.at _) rfl) ?_
            refine sv (yMul rfl rfl ⟨by omega, by omega⟩) ?_
            refine sv (yMove h17) ?_
            refine sv (ySub rfl rfl ⟨by omega, by omega⟩) ?_
            refine sv (fa46_5 h14) ?_
            refine sv (yLdB rfl Try.isAgg3 (hS.at _) rfl) ?_
            refine sv (fa46_4 h14) ?_
            refine sv (yLdB rfl Try.isAgg3 (hS.at _) rfl) ?_
            refine sv (yMul rfl rfl ⟨by omega, by omega⟩) ?_
            refine sv (yGtr rfl rfl) ?_
            refine sv (yMove rfl) ?_
            refine sg rfl rfl rfl (fun g => (yMove h17)) (fun v160 g160 => ?_)
            refine sg rfl rfl rfl (fun g => (yMove rfl)) (fun v161 g161 => ?_)
            refine sg rfl rfl rfl (fun g => (fa46_4 h14)) (fun v162 g162 => ?_)
            refine sg rfl rfl rfl (fun g => (yLdB (g162.1 g) Try.isAgg3 (hS.at _) rfl)) (fun v163 g163 => ?_)
            refine sg rfl rfl rfl (fun g => (yMul (g161.1 g) (g163.1 g) ⟨by omega, by omega⟩)) (fun v164 g164 => ?_)
            refine sg rfl rfl rfl (fun g => (ySub (g160.1 g) (g164.1 g) ⟨by omega, by omega⟩)) (fun v165 g165 => ?_)
            refine sg rfl rfl rfl (fun g => (fa46_5 h14)) (fun v166 g166 => ?_)
            refine sg rfl rfl rfl (fun g => (yLdB (g166.1 g) Try.isAgg3 (hS.at _) rfl)) (fun v167 g167 => ?_)
            refine sg rfl rfl rfl (fun g => (fa46_4 h14)) (fun v168 g168 => ?_)
            refine sg rfl rfl rfl (fun g => (yLdB (g168.1 g) Try.isAgg3 (hS.at _) rfl)) (fun v169 g169 => ?_)
            refine sg rfl rfl rfl (fun g => (yMul (g167.1 g) (g169.1 g) ⟨by omega, by omega⟩)) (fun v170 g170 => ?_)
            refine sg rfl rfl rfl (fun g => (yGtr (g165.1 g) (g170.1 g))) (fun v171 g171 => ?_)
            refine sv (yOr rfl rfl (fun hB => (g171.1 hB))) ?_
            refine nil ?_
            show Code.wp _ _ _ _ _
            refine cond rfl (fun c172 => ?_) (fun c172 => ?_)
            ·
              simp only [Bool.and_eq_true, Bool.or_eq_true, Bool.and_eq_false_iff, Bool.or_eq_false_iff, decide_eq_true_eq, decide_eq_false_iff_not, Bool.not_eq_true, Bool.not_eq_false, Bool.not_not, Bool.not_eq_eq_eq_not, Bool.not_true, Bool.not_false, Bool.false_eq_true, Bool.true_eq_false, ne_eq, Decidable.not_not, not_false_eq_true, not_true_eq_false] at c172
              refine seq ?_
              refine region ?_
              refine sv (yMove h17) ?_
              refine sv (fa46_4 h14) ?_
              refine sv (yLdB rfl Try.isAgg3 (hS.at _) rfl) ?_
              refine sv (yQuo rfl rfl (by omega) ⟨by omega, by omega⟩) ?_
              refine sv (yAsg rfl) ?_
              refine nil ?_
              show Code.wp _ _ _ _ _
              refine seq ?_
              refine region ?_
              refine sv (yMove h17) ?_
              refine sv (fa46_4 h14) ?_
              refine sv (yLdB rfl Try.isAgg3 (hS.at _) rfl) ?_
              refine sv (yRem rfl rfl (by omega)) ?_
              refine sv (yNeq rfl rfl) ?_
              refine sv (yMove rfl) ?_
              refine sg rfl rfl rfl (fun g => (fa46_5 h14)) (fun v183 g183 => ?_)
              refine sg rfl rfl rfl (fun g => (yLdB (g183.1 g) Try.isAgg3 (hS.at _) rfl)) (fun v184 g184 => ?_)
              refine sg rfl rfl rfl (fun g => (yEql (g184.1 g) rfl)) (fun v185 g185 => ?_)
              refine sv (yAnd rfl (fun hB => (g185.1 hB)) rfl) ?_
              refine nil ?_
              show Code.wp _ _ _ _ _
              refine cond rfl (fun c186 => ?_) (fun c186 => ?_)
              ·
                simp only [Bool.and_eq_true, Bool.or_eq_true, Bool.and_eq_false_iff, Bool.or_eq_false_iff, decide_eq_true_eq, decide_eq_false_iff_not, Bool.not_eq_true, Bool.not_eq_false, Bool.not_not, Bool.not_eq_eq_eq_not, Bool.not_true, Bool.not_false, Bool.false_eq_true, Bool.true_eq_false, ne_eq, Decidable.not_not, not_false_eq_true, not_true_eq_false] at c186
                refine seq ?_
                refine region ?_
                refine scall Try.call23 .nil c_Awake ?_
                rintro _ w ⟨rfl, hE⟩; replace hS := hS.step hE; clear hE
                refine sv (yAsg rfl) ?_
                refine nil ?_
                show Code.wp _ _ _ _ _
                refine wp_ret (thenR (blockR (thenR (thenR (blockR (thenR ?_))))))
                exact retV (res1 rfl rfl) hS.ext
              ·
                simp only [Bool.and_eq_true, Bool.or_eq_true, Bool.and_eq_false_iff, Bool.or_eq_false_iff, decide_eq_true_eq, decide_eq_false_iff_not, Bool.not_eq_true, Bool.not_eq_false, Bool.not_not, Bool.not_eq_eq_eq_not, Bool.not_true, Bool.not_false, Bool.false_eq_true, Bool.true_eq_false, ne_eq, Decidable.not_not, not_false_eq_true, not_true_eq_false] at c186
                have hx := between_B (s := c.slack) (h := interp c p) (d := c.den) (by omega) (by omega)
                have hsum2 := sum_take hx0 hsum (by rw [hpe]; exact hx)
                refine skip ?_
                show Code.wp _ _ _ _ _
                refine seq ?_
                refine cutK (fun f => f 1 = .int .i64 tick ∧ f 2 = .slice ad ds.length capd ∧ f 3 = .pointer (some ⟨b3, 0, none⟩) ∧ f 7 = .pointer (some ⟨b7, 0, none⟩) ∧ f 11 = .int .i64 sum ∧ f 12 = .pointer (some ⟨b12, 0, none⟩) ∧ f 13 = .int .i64 (k : Int) ∧ f 14 = .pointer (some ⟨b14, 0, none⟩) ∧ f 19 = .int .i64 ((interp c p).tdiv c.den) ∧ True) ⟨h1, h2, h3, h7, h11, h12, h13, h14, rfl, trivial⟩ ?_
                rintro f ⟨h1, h2, h3, h7, h11, h12, h13, h14, h19, -⟩
                refine region ?_
                refine sv (yMove h11) ?_
                refine sv (yMove h19) ?_
                refine sv (yAdd rfl rfl ⟨by omega, by omega⟩) ?_
                refine sv (yAsg rfl) ?_
                refine nil ?_
                show Code.wp _ _ _ _ _
                refine seq ?_
                refine region ?_
                refine sv (fa46_5 h14) ?_
                refine sv (yLdB rfl Try.isAgg3 (hS.at _) rfl) ?_
                refine sv (yAdd rfl rfl ⟨by omega, by omega⟩) ?_
                refine sv (yMove h13) ?_
                refine sv (yAdd rfl rfl ⟨by omega, by omega⟩) ?_
                refine sv (yMin rfl rfl) ?_
                refine sv (fa46_5 h14) ?_
                refine sst hS rfl rfl Try.sizeOf3 rfl rfl rfl rfl ?_; clear hS; intro w hS
                refine nil ?_
                show Code.wp _ _ _ _ _
                refine region ?_
                refine sv (fa24_1 h12) ?_
                refine sv (yLdB rfl Try.isAgg22 (hS.at _) rfl) ?_
                refine sv (yLdBA h14 Try.isAgg46 Try.sizeOf46 (hS.at _) rfl rfl) ?_
                refine sbslice hS Try.underlying22 Try.sizeOf46 rfl Try.zeroValue46 rfl (.cons rfl rfl .nil) rfl ?_; clear hS; intro b201 w hS
                refine sapp (bytes := 72) (size := 6) (v := v) (m := 1) hS rfl rfl Try.underlying22 ti46 rfl rfl rfl rfl (by decide) (blk_cells (hS.at _)) rfl rfl (by omega) (by omega) ?_; clear hS; intro v202 w hS
                refine sv (fa24_1 h12) ?_
                obtain ⟨gr, capr, rfl, _, _, _⟩ := row_some (hS.row v202) (Nat.succ_pos _)
                refine sst hS rfl rfl Try.sizeOf22 rfl rfl rfl rfl ?_; clear hS; intro w hS
                refine nil ?_
                show Code.wp _ _ _ _ _
                refine region ?_
                refine sv (yMove h13) ?_
                refine sv (yAdd rfl rfl ⟨by omega, by omega⟩) ?_
                refine sv (yAsg rfl) ?_
                refine nil ?_
                exact ⟨_, _, rfl, ⟨k + 1, _, _, css ++ [[.string c.name, .slice a1 c.heights.length cap1, .int .i64 c.off, .int .i64 c.step, .int .i64 c.den, .int .i64 (min 1000 (c.slack + 1 + (k : Int)))]], h1, h2, h3, h7, rfl, h12, rfl, (by rw [flat_snoc]; exact hS.sub (.cons _ (.cons _ (List.Sublist.refl _)))), (by omega), (by rw [take_snoc hx0, wides_snoc, show 0 + (t.consts.take k).length = k by simp; omega]; exact hrows.snoc rfl ⟨_, rfl, hn1, hsl1, hi1, hi2, hi3, show I64 (min 1000 (c.slack + 1 + (k : Int))) from ⟨by omega, by omega⟩⟩), (hsum2), rfl⟩, by omega⟩
            ·
              simp only [Bool.and_eq_true, Bool.or_eq_true, Bool.and_eq_false_iff, Bool.or_eq_false_iff, decide_eq_true_eq, decide_eq_false_iff_not, Bool.not_eq_true, Bool.not_eq_false, Bool.not_not, Bool.not_eq_eq_eq_not, Bool.not_true, Bool.not_false, Bool.false_eq_true, Bool.true_eq_false, ne_eq, Decidable.not_not, not_false_eq_true, not_true_eq_false] at c172
              have hx := between_A (s := c.slack) (x := X) (h := interp c p) (d := c.den) (by omega) (by omega) (by omega)
              have hsum2 := sum_take hx0 hsum (by rw [hpe]; exact hx)
              refine skip ?_
              show Code.wp _ _ _ _ _
              refine seq ?_
              refine cutK (fun f => f 1 = .int .i64 tick ∧ f 2 = .slice ad ds.length capd ∧ f 3 = .pointer (some ⟨b3, 0, none⟩) ∧ f 7 = .pointer (some ⟨b7, 0, none⟩) ∧ f 11 = .int .i64 sum ∧ f 12 = .pointer (some ⟨b12, 0, none⟩) ∧ f 13 = .int .i64 (k : Int) ∧ f 14 = .pointer (some ⟨b14, 0, none⟩) ∧ f 19 = .int .i64 X ∧ True) ⟨h1, h2, h3, h7, h11, h12, h13, h14, rfl, trivial⟩ ?_
              rintro f ⟨h1, h2, h3, h7, h11, h12, h13, h14, h19, -⟩
              refine region ?_
              refine sv (yMove h11) ?_
              refine sv (yMove h19) ?_
              refine sv (yAdd rfl rfl ⟨by omega, by omega⟩) ?_
              refine sv (yAsg rfl) ?_
              refine nil ?_
              show Code.wp _ _ _ _ _
              refine seq ?_
              refine region ?_
              refine sv (fa46_5 h14) ?_
              refine sv (yLdB rfl Try.isAgg3 (hS.at _) rfl) ?_
              refine sv (yAdd rfl rfl ⟨by omega, by omega⟩) ?_
              refine sv (yMove h13) ?_
              refine sv (yAdd rfl rfl ⟨by omega, by omega⟩) ?_
              refine sv (yMin rfl rfl) ?_
              refine sv (fa46_5 h14) ?_
              refine sst hS rfl rfl Try.sizeOf3 rfl rfl rfl rfl ?_; clear hS; intro w hS
              refine nil ?_
              show Code.wp _ _ _ _ _
              refine region ?_
              refine sv (fa24_1 h12) ?_
              refine sv (yLdB rfl Try.isAgg22 (hS.at _) rfl) ?_
              refine sv (yLdBA h14 Try.isAgg46 Try.sizeOf46 (hS.at _) rfl rfl) ?_
              refine sbslice hS Try.underlying22 Try.sizeOf46 rfl Try.zeroValue46 rfl (.cons rfl rfl .nil) rfl ?_; clear hS; intro b201 w hS
              refine sapp (bytes := 72) (size := 6) (v := v) (m := 1) hS rfl rfl Try.underlying22 ti46 rfl rfl rfl rfl (by decide) (blk_cells (hS.at _)) rfl rfl (by omega) (by omega) ?_; clear hS; intro v202 w hS
              refine sv (fa24_1 h12) ?_
              obtain ⟨gr, capr, rfl, _, _, _⟩ := row_some (hS.row v202) (Nat.succ_pos _)
              refine sst hS rfl rfl Try.sizeOf22 rfl rfl rfl rfl ?_; clear hS; intro w hS
              refine nil ?_
              show Code.wp _ _ _ _ _
              refine region ?_
              refine sv (yMove h13) ?_
              refine sv (yAdd rfl rfl ⟨by omega, by omega⟩) ?_
              refine sv (yAsg rfl) ?_
              refine nil ?_
              exact ⟨_, _, rfl, ⟨k + 1, _, _, css ++ [[.string c.name, .slice a1 c.heights.length cap1, .int .i64 c.off, .int .i64 c.step, .int .i64 c.den, .int .i64 (min 1000 (c.slack + 1 + (k : Int)))]], h1, h2, h3, h7, rfl, h12, rfl, (by rw [flat_snoc]; exact hS.sub (.cons _ (.cons _ (List.Sublist.refl _)))), (by omega), (by rw [take_snoc hx0, wides_snoc, show 0 + (t.consts.take k).length = k by simp; omega]; exact hrows.snoc rfl ⟨_, rfl, hn1, hsl1, hi1, hi2, hi3, show I64 (min 1000 (c.slack + 1 + (k : Int))) from ⟨by omega, by omega⟩⟩), (hsum2), rfl⟩, by omega⟩
    ·
      simp only [Bool.and_eq_true, Bool.or_eq_true, Bool.and_eq_false_iff, Bool.or_eq_false_iff, decide_eq_true_eq, decide_eq_false_iff_not, Bool.not_eq_true, Bool.not_eq_false, Bool.not_not, Bool.not_eq_eq_eq_not, Bool.not_true, Bool.not_false, Bool.false_eq_true, Bool.true_eq_false, ne_eq, Decidable.not_not, not_false_eq_true, not_true_eq_false] at c53
      obtain rfl : k = t.consts.length := by omega
      rw [List.take_length] at hrows hsum
      refine exit ?_
      show Code.wp _ _ _ _ _
      refine seq ?_
      refine region ?_
      refine sv (yLdBA h12 Try.isAgg24 Try.sizeOf24 (hS.at _) rfl rfl) ?_
      refine sv (yMove h1) ?_
      refine scall Try.call28 (.cons rfl (.cons rfl .nil)) (c_Level (t := ⟨t.mean, wides 0 t.consts⟩) ⟨_, rfl, hmean, sl_of_row (hS.row v) (hrows.ext RConst.stays hS.ext) (wides_len _ _)⟩ hti) ?_
      rintro _ w ⟨rfl, hE⟩; replace hS := hS.step hE; clear hE
      refine sv (yMove rfl) ?_
      refine sv (yExt rfl rfl) ?_
      refine sv (yExt rfl rfl) ?_
      refine salloc hS Try.zeroValue38 rfl ?_; clear hS; intro b20 w hS
      refine sst hS rfl rfl Try.sizeOf38 rfl rfl rfl rfl ?_; clear hS; intro w hS
      refine sv (yAsg rfl) ?_
      refine nil ?_
      show Code.wp _ _ _ _ _
      refine seq ?_
      refine region ?_
      refine sv (yLdBA h7 Try.isAgg38 Try.sizeOf38 (hS.at _) rfl rfl) ?_
      refine sv (yMove h11) ?_
      refine scall Try.call29 (.cons rfl (.cons rfl .nil)) c_has ?_
      rintro _ w ⟨rfl, hE⟩; replace hS := hS.step hE; clear hE
      refine sv (yMove rfl) ?_
      refine sg rfl rfl rfl (fun g => (yMove rfl)) (fun v214 g214 => ?_)
      refine sg rfl rfl rfl (fun g => (yEql (g214.1 g) rfl)) (fun v215 g215 => ?_)
      refine sv (yAnd rfl (fun hB => (g215.1 hB)) rfl) ?_
      refine sv (yMove rfl) ?_
      refine sg rfl rfl rfl (fun g => (yLdBA h7 Try.isAgg38 Try.sizeOf38 (hS.at _) rfl rfl)) (fun v218 g218 => ?_)
      refine sg rfl rfl rfl (fun g => (yLdBA rfl Try.isAgg38 Try.sizeOf38 (hS.at _) rfl rfl)) (fun v219 g219 => ?_)
      refine sgc hS rfl rfl rfl Try.call30 (fun g => (.cons (g218.1 g) (.cons (g219.1 g) .nil))) (fun g => c_within) ?_; clear hS; intro v220 w hS g220
      refine sv (yAnd rfl (fun hB => (g220.1 hB)) rfl) ?_
      refine sv (yMove rfl) ?_
      refine sgc hS rfl rfl rfl Try.call23 (fun g => .nil) (fun g => c_Awake) ?_; clear hS; intro v223 w hS g223
      refine sv (yAnd rfl (fun hB => (g223.1 hB)) rfl) ?_
      refine sv (yAsg rfl) ?_
      refine nil ?_
      show Code.wp _ _ _ _ _
      have hW := levelF_ok (checkT_wide hC) htb
      have hw := withinB_iff.2 (lvl_within hok tick)
      have hh : hasB (lvlT t tick) sum = true := hasB_iff.2 hsum
      refine wp_ret ?_
      exact retV (res1 rfl (eqB (by rw [hW]; simp [hh, hw]))) hS.ext
end Go.Proofs.Ytpgmehignepidaa
