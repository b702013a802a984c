/- Walks, part Wk18. -/
import Derived.Test.YtpgmehignepidaaWk17
set_option linter.all false
namespace Go.Proofs.Ytpgmehignepidaa
open Go Bx
set_option maxHeartbeats 8000000 in
/-- barrage/barragelaw01.TideHighest -/
theorem w_TideHighest {t : Table} {cs xs : List Value} {x : Int × Int} {dv : Value} {ds : List Int} {w0 : World} (ht : RTable w0 cs t) (hx2 : RI2 w0 xs x) (hds : Sl w0 1 RU8 dv ds) : CV Try.prog 16 #[.agg cs.toArray, .agg xs.toArray, dv] w0 (.bool true) := by
  obtain ⟨cv, rfl, hmean, hsl⟩ := id ht
  obtain ⟨aa, cap, rfl, hcap, hmx, hel⟩ := id hsl
  obtain ⟨a, n⟩ := x
  obtain ⟨rfl, hia, hin⟩ := hx2
  simp only [] at hia hin
  obtain ⟨ad, capd, rfl, hcapd, hmxd, held⟩ := id hds
  refine enter Try.func16 rfl Try.ntmps16 rfl ?_
  have hS := St.start w0
  refine seq ?_
  refine region ?_
  refine sbox hS rfl rfl ?_; clear hS; intro b3 w hS
  refine sbox hS rfl rfl ?_; clear hS; intro b4 w hS
  refine sv (yAsg rfl) ?_
  refine nil ?_
  show Code.wp _ _ _ _ _
  refine seq ?_
  refine region_draw mixed (by kernel_rfl) hS ?_
  refine qv (fun w hS => (yIxA rfl rfl Try.runUnderlying86 Try.sizeOf3 (by omega) (by omega))) ?_
  refine qv (fun w hS => (yLdB rfl Try.isAgg3 (hS.at _) rfl)) ?_
  refine qv (fun w hS => (yIxA rfl rfl Try.runUnderlying86 Try.sizeOf3 (by omega) (by omega))) ?_
  refine qv (fun w hS => (yLdB rfl Try.isAgg3 (hS.at _) rfl)) ?_
  refine qv (fun w hS => (yAsg rfl)) ?_
  refine qv (fun w hS => (yAsg rfl)) ?_
  clear hS; refine qnil (fun w hS => ?_)
  show Code.wp _ _ _ _ _
  refine seq ?_
  refine seq ?_
  refine region ?_
  refine sv (yMove rfl) ?_
  refine sv (yGtr rfl rfl) ?_
  refine nil ?_
  show Code.wp _ _ _ _ _
  refine cond rfl (fun c26 => ?_) (fun c26 => ?_)
  ·
    simp only [Bool.and_eq_true, Bool.or_eq_true, Bool.and_eq_false_iff, Bool.or_eq_false_iff, decide_eq_true_eq, decide_eq_false_iff_not, Bool.not_eq_true, Bool.not_eq_false, Bool.not_not, Bool.not_eq_eq_eq_not, Bool.not_true, Bool.not_false, Bool.false_eq_true, Bool.true_eq_false, ne_eq, Decidable.not_not, not_false_eq_true, not_true_eq_false] at c26
    refine seq ?_
    refine region ?_
    refine scall Try.call23 .nil c_Awake ?_
    rintro _ w ⟨rfl, hE⟩; replace hS := hS.step hE; clear hE
    refine sv (yAsg rfl) ?_
    refine nil ?_
    show Code.wp _ _ _ _ _
    refine wp_ret (thenR ?_)
    exact retV (res1 rfl rfl) hS.ext
  ·
    simp only [Bool.and_eq_true, Bool.or_eq_true, Bool.and_eq_false_iff, Bool.or_eq_false_iff, decide_eq_true_eq, decide_eq_false_iff_not, Bool.not_eq_true, Bool.not_eq_false, Bool.not_not, Bool.not_eq_eq_eq_not, Bool.not_true, Bool.not_false, Bool.false_eq_true, Bool.true_eq_false, ne_eq, Decidable.not_not, not_false_eq_true, not_true_eq_false] at c26
    refine skip ?_
    show Code.wp _ _ _ _ _
    refine seq ?_
    refine region ?_
    refine sv (yLdBA rfl Try.isAgg24 Try.sizeOf24 (hS.at _) rfl rfl) ?_
    refine sv (yMove rfl) ?_
    refine sv (yMove rfl) ?_
    refine scall Try.call46 (.cons rfl (.cons rfl (.cons rfl .nil))) (c_High (ht.ext hS.ext) hia hin) ?_
    rintro _ w ⟨sv1, rfl, hM⟩; replace hS := hS.call1 hM; clear hM; obtain ⟨ah, caph, rfl⟩ := row_shape (hS.row sv1)
    refine sv (yMove rfl) ?_
    refine sv (yExt rfl rfl) ?_
    refine sv (yExt rfl rfl) ?_
    refine sv (yAsg rfl) ?_
    refine sv (yAsg rfl) ?_
    refine nil ?_
    show Code.wp _ _ _ _ _
    refine seq ?_
    refine region ?_
    refine sv (yLdBA rfl Try.isAgg24 Try.sizeOf24 (hS.at _) rfl rfl) ?_
    refine sv (yMove rfl) ?_
    refine sv (yMove rfl) ?_
    refine scall Try.call34 (.cons rfl (.cons rfl (.cons rfl .nil))) (c_Levels (ht.ext hS.ext)) ?_
    rintro _ w ⟨sv2, rfl, hM⟩; replace hS := hS.call1 hM; clear hM; obtain ⟨al, capl, rfl⟩ := row_shape (hS.row sv2)
    refine sv (yMove rfl) ?_
    refine sv (yExt rfl rfl) ?_
    refine sv (yExt rfl rfl) ?_
    refine sv (yAsg rfl) ?_
    refine sv (yAsg rfl) ?_
    refine nil ?_
    show Code.wp _ _ _ _ _
    refine seq ?_
    refine seq ?_
    refine region ?_
    refine sv (yMove rfl) ?_
    refine sv (yNeq rfl rfl) ?_
    refine sv (yMove rfl) ?_
    refine sg rfl rfl rfl (fun g => (yMove rfl)) (fun v45 g45 => ?_)
    refine sg rfl rfl rfl (fun g => (yNeq (g45.1 g) rfl)) (fun v46 g46 => ?_)
    refine sv (yOr rfl rfl (fun hB => (g46.1 hB))) ?_
    refine sv (yMove rfl) ?_
    refine sg rfl rfl rfl (fun g => (yMove rfl)) (fun v49 g49 => ?_)
    refine sg rfl rfl rfl (fun g => (yLen (g49.1 g) Try.underlying61)) (fun v50 g50 => ?_)
    refine sg rfl rfl rfl (fun g => (yEql (g50.1 g) rfl)) (fun v51 g51 => ?_)
    refine sv (yOr rfl rfl (fun hB => (g51.1 hB))) ?_
    refine nil ?_
    show Code.wp _ _ _ _ _
    refine cond rfl (fun c52 => ?_) (fun c52 => ?_)
    ·
      simp only [Bool.and_eq_true, Bool.or_eq_true, Bool.and_eq_false_iff, Bool.or_eq_false_iff, decide_eq_true_eq, decide_eq_false_iff_not, Bool.not_eq_true, Bool.not_eq_false, Bool.not_not, Bool.not_eq_eq_eq_not, Bool.not_true, Bool.not_false, Bool.false_eq_true, Bool.true_eq_false, ne_eq, Decidable.not_not, not_false_eq_true, not_true_eq_false] at c52
      refine seq ?_
      refine region ?_
      refine sv (yMove rfl) ?_
      refine sv (yMove rfl) ?_
      refine sv (yEql rfl rfl) ?_
      refine sv (yMove rfl) ?_
      refine sg rfl rfl rfl (fun g => (yMove rfl)) (fun v57 g57 => ?_)
      refine sg rfl rfl rfl (fun g => (yLen (g57.1 g) Try.underlying44)) (fun v58 g58 => ?_)
      refine sg rfl rfl rfl (fun g => (yEql (g58.1 g) rfl)) (fun v59 g59 => ?_)
      refine sv (yAnd rfl (fun hB => (g59.1 hB)) rfl) ?_
      refine sv (yMove rfl) ?_
      refine sgc hS rfl rfl rfl Try.call23 (fun g => .nil) (fun g => c_Awake) ?_; clear hS; intro v62 w hS g62
      refine sv (yAnd rfl (fun hB => (g62.1 hB)) rfl) ?_
      refine sv (yAsg rfl) ?_
      refine nil ?_
      show Code.wp _ _ _ _ _
      have hnil : (highF t a n).length = 0 := by
        unfold highF
        by_cases hz : levelsE t a n = 0
        · rw [if_neg (fun h => h hz)]
          have h0 : (levelsF t a n).length = 0 := by
            rcases c52 with (h | h) | h
            · exact absurd hz h
            · exact absurd hz h
            · omega
          have := highsK_len (levelsF t a n) a (levelsF t a n).length
          omega
        · rw [if_pos hz]; rfl
      refine wp_ret (thenR ?_)
      exact retV (res1 rfl (eqB (by simp [hnil]))) hS.ext
    ·
      simp only [Bool.and_eq_true, Bool.or_eq_true, Bool.and_eq_false_iff, Bool.or_eq_false_iff, decide_eq_true_eq, decide_eq_false_iff_not, Bool.not_eq_true, Bool.not_eq_false, Bool.not_not, Bool.not_eq_eq_eq_not, Bool.not_true, Bool.not_false, Bool.false_eq_true, Bool.true_eq_false, ne_eq, Decidable.not_not, not_false_eq_true, not_true_eq_false] at c52
      obtain ⟨⟨hz, _⟩, hl0⟩ := c52
      obtain ⟨_, hz2, hz3⟩ := levelsE_zero hz
      have hsp := levelsF_spans (t := t) (a := a) (n := n)
      have hHe : highF t a n = highsK (levelsF t a n) a (levelsF t a n).length := by unfold highF; rw [if_neg (fun h => h hz)]
      have hlen : (levelsF t a n).length = n.toNat := by rw [levelsF_good hz, lvlsL_len]
      generalize highF t a n = H at *
      generalize levelsF t a n = l at *
      have hab := hz3 (by omega)
      have hHl := highsK_len l a l.length
      rw [← hHe] at hHl
      have hasc := highsK_asc l a l.length
      rw [← hHe] at hasc
      have hne : l ≠ [] := fun h => by rw [h] at hl0; exact hl0 rfl
      refine skip ?_
      show Code.wp _ _ _ _ _
      refine seq ?_
      refine region ?_
      refine sv (yAsg rfl) ?_
      refine nil ?_
      show Code.wp _ _ _ _ _
      refine seq ?_
      refine region ?_
      refine sv (yAsg rfl) ?_
      refine nil ?_
      show Code.wp _ _ _ _ _
      refine seq ?_
      refine seq ?_
      refine region ?_
      refine sv (yAsg rfl) ?_
      refine nil ?_
      show Code.wp _ _ _ _ _
      refine block ?_
      refine loop (fun f w zz => ∃ (k most : Nat) (v : Value) (lv : List Int), f 2 = .slice ad ds.length capd ∧ f 7 = .int .i64 a ∧ f 9 = .slice ah H.length caph ∧ f 11 = .slice al l.length capl ∧ f 13 = v ∧ f 14 = .int .i64 (most : Int) ∧ f 15 = .int .i64 (k : Int) ∧ St w0 w [rowI v 3 1 (k) (lv.flatMap encI), rowI (.slice al l.length capl) 38 2 l.length (l.flatMap spanC), rowI (.slice ah H.length caph) 3 1 H.length (H.flatMap encI)] ∧ (k ≤ l.length) ∧ (Most l lv k most) ∧ zz = l.length - k) _ ⟨_, rfl, 0, 0, _, [], rfl, rfl, rfl, rfl, rfl, rfl, rfl, ((hS.nilrow 3 1).sub (.cons_cons _ (.cons_cons _ (.cons_cons _ (List.nil_sublist _))))), (Nat.zero_le _), (⟨rfl, fun i hi => absurd hi (Nat.not_lt_zero i), .inl ⟨rfl, rfl⟩, fun i hi => absurd hi (Nat.not_lt_zero i)⟩), rfl⟩ ?_
      clear hS
      rintro f w _ ⟨k, most, v, lv, h2, h7, h9, h11, h13, h14, h15, hS, hk, hM, rfl⟩
      refine seq ?_
      refine seq ?_
      refine region ?_
      refine sv (yMove h15) ?_
      refine sv (yMove h11) ?_
      refine sv (yLen rfl Try.underlying61) ?_
      refine sv (yLss rfl rfl) ?_
      refine nil ?_
      show Code.wp _ _ _ _ _
      refine cond rfl (fun c67 => ?_) (fun c67 => ?_)
      ·
        simp only [Bool.and_eq_true, Bool.or_eq_true, Bool.and_eq_false_iff, Bool.or_eq_false_iff, decide_eq_true_eq, decide_eq_false_iff_not, Bool.not_eq_true, Bool.not_eq_false, Bool.not_not, Bool.not_eq_eq_eq_not, Bool.not_true, Bool.not_false, Bool.false_eq_true, Bool.true_eq_false, ne_eq, Decidable.not_not, not_false_eq_true, not_true_eq_false] at c67
        obtain ⟨s, hx, hd⟩ := drop_of (l := l) (k := k) (by omega)
        obtain ⟨g, hag, hcg⟩ := row_get (hS.row (.slice al l.length capl)) (by omega)
        have hcs := flat_cells spanC_len hcg hx
        have hso := hsp s (List.mem_of_getElem? hx)
        refine skip ?_
        show Code.wp _ _ _ _ _
        refine seq ?_
        refine block ?_
        refine seq ?_
        refine region ?_
        refine sv (yMove h11) ?_
        refine sv (yMove h15) ?_
        refine sv (yIxa rfl hag rfl Try.runUnderlying61 Try.sizeOf38 (by omega) (by omega)) ?_
        refine sv (fa38_0 rfl) ?_
        refine sv (yLd rfl Try.isAgg3 ((flat_cells spanC_len (row_at (hS.row (.slice al l.length capl)) hag (by omega)) hx).one)) ?_
        refine sv (yAsg rfl) ?_
        refine nil ?_
        show Code.wp _ _ _ _ _
        refine seqJ (n := 173) (fun f w => ∃ (x : Int), f 2 = .slice ad ds.length capd ∧ f 7 = .int .i64 a ∧ f 9 = .slice ah H.length caph ∧ f 11 = .slice al l.length capl ∧ f 13 = v ∧ f 14 = .int .i64 (most : Int) ∧ f 15 = .int .i64 (k : Int) ∧ f 16 = .int .i64 x ∧ StX [] w0 w [rowI v 3 1 (k) (lv.flatMap encI), rowI (.slice al l.length capl) 38 2 l.length (l.flatMap spanC), rowI (.slice ah H.length caph) 3 1 H.length (H.flatMap encI)] ∧ (s.lo ≤ x ∧ x ≤ s.hi) ∧ True) ?_ ?_
        ·
          refine seq ?_
          refine region ?_
          refine sv (yMove h15) ?_
          refine sv (yMove h2) ?_
          refine sv (yLen rfl Try.underlying51) ?_
          refine sv (yLss rfl rfl) ?_
          refine nil ?_
          show Code.wp _ _ _ _ _
          refine cond rfl (fun c78 => ?_) (fun c78 => ?_)
          ·
            simp only [Bool.and_eq_true, Bool.or_eq_true, Bool.and_eq_false_iff, Bool.or_eq_false_iff, decide_eq_true_eq, decide_eq_false_iff_not, Bool.not_eq_true, Bool.not_eq_false, Bool.not_not, Bool.not_eq_eq_eq_not, Bool.not_true, Bool.not_false, Bool.false_eq_true, Bool.true_eq_false, ne_eq, Decidable.not_not, not_false_eq_true, not_true_eq_false] at c78
            obtain ⟨bz, oz, csz, haz, hlenz, hcsz, hRz⟩ := held k (by omega)
            obtain ⟨rfl, he1, he2⟩ := hRz
            generalize ds[k] = sh at hcsz he1 he2
            have hshb : Bd sh 0 255 := ⟨he1, he2⟩
            obtain ⟨hso1, hso2, hso3⟩ := id hso
            have hm1 : 0 ≤ (s.hi - s.lo) * sh := Int.mul_nonneg (by omega) he1
            have hm2 : (s.hi - s.lo) * sh ≤ (s.hi - s.lo) * 255 := Int.mul_le_mul_of_nonneg_left he2 (by omega)
            have hsb := share_bd hso1 hshb
            refine region_draw mixed (by kernel_rfl) hS ?_
            refine qv (fun w hS => (yMove rfl)) ?_
            refine qv (fun w hS => (yMove h11)) ?_
            refine qv (fun w hS => (yMove h15)) ?_
            refine qv (fun w hS => (yIxa rfl hag rfl Try.runUnderlying61 Try.sizeOf38 (by omega) (by omega))) ?_
            refine qv (fun w hS => (fa38_1 rfl)) ?_
            refine qv (fun w hS => (yLd rfl Try.isAgg3 ((flat_cells spanC_len (row_at (hS.row (.slice al l.length capl)) hag (by omega)) hx).at (j := 1) rfl))) ?_
            refine qv (fun w hS => (yMove h11)) ?_
            refine qv (fun w hS => (yMove h15)) ?_
            refine qv (fun w hS => (yIxa rfl hag rfl Try.runUnderlying61 Try.sizeOf38 (by omega) (by omega))) ?_
            refine qv (fun w hS => (fa38_0 rfl)) ?_
            refine qv (fun w hS => (yLd rfl Try.isAgg3 ((flat_cells spanC_len (row_at (hS.row (.slice al l.length capl)) hag (by omega)) hx).one))) ?_
            refine qv (fun w hS => (ySub rfl rfl ⟨by omega, by omega⟩)) ?_
            refine qv (fun w hS => (yMove h2)) ?_
            refine qv (fun w hS => (yMove h15)) ?_
            refine qv (fun w hS => (yIxa rfl haz rfl Try.runUnderlying51 Try.sizeOf5 (by omega) (by omega))) ?_
            refine qv (fun w hS => (yLd rfl Try.isAgg5 ((hcsz.ext hS.ext).one))) ?_
            refine qv (fun w hS => (yToI rfl Try.underlying5 Try.underlying3 ⟨by omega, by omega⟩)) ?_
            refine qv (fun w hS => (yMul rfl rfl ⟨by omega, by omega⟩)) ?_
            refine qv (fun w hS => (yQuoP rfl rfl ⟨by omega, by omega⟩ (by omega))) ?_
            refine qv (fun w hS => (yAdd rfl rfl ⟨by omega, by omega⟩)) ?_
            refine qv (fun w hS => (yAsg rfl)) ?_
            clear hS; refine qnil (fun w hS => ?_)
            exact ⟨_, rfl, _, h2, h7, h9, h11, h13, h14, h15, rfl, hS, (share_bd hso.1 hshb), trivial⟩
          ·
            simp only [Bool.and_eq_true, Bool.or_eq_true, Bool.and_eq_false_iff, Bool.or_eq_false_iff, decide_eq_true_eq, decide_eq_false_iff_not, Bool.not_eq_true, Bool.not_eq_false, Bool.not_not, Bool.not_eq_eq_eq_not, Bool.not_true, Bool.not_false, Bool.false_eq_true, Bool.true_eq_false, ne_eq, Decidable.not_not, not_false_eq_true, not_true_eq_false] at c78
            refine skip ?_
            exact ⟨_, rfl, _, h2, h7, h9, h11, h13, h14, h15, rfl, hS, (⟨Int.le_refl _, hso.1⟩), trivial⟩
        ·
          clear hS; rintro f w ⟨x, h2, h7, h9, h11, h13, h14, h15, h16, hS, hxb, -⟩
          refine seq ?_
          refine region ?_
          refine sv (yMove h13) ?_
          refine sv (yMove h16) ?_
          refine sbslice hS Try.underlying44 Try.sizeOf3 rfl Try.zeroValue3 rfl (.cons rfl rfl .nil) rfl ?_; clear hS; intro b101 w hS
          refine sapp (bytes := 8) (size := 1) (v := v) (m := 1) hS rfl rfl Try.underlying44 ti3 rfl rfl rfl rfl (by decide) (blk_cells (hS.at _)) rfl rfl (by omega) (by omega) ?_; clear hS; intro v102 w hS
          refine sv (yAsg rfl) ?_
          refine nil ?_
          show Code.wp _ _ _ _ _
          refine seq ?_
          refine region ?_
          obtain ⟨gr, capr, rfl, _, _, _⟩ := row_some (hS.row v102) (Nat.succ_pos _)
          have hmk : most < k + 1 := by rcases hM.at_ with ⟨_, h⟩ | h <;> omega
          obtain ⟨y, hy⟩ : ∃ y, (lv ++ [x])[most]? = some y := ⟨_, List.getElem?_eq_getElem (by simp [hM.len]; omega)⟩
          have hyd := getD_hit (d := (0 : Int)) hy
          refine sv (yMove h16) ?_
          refine sv (yMove rfl) ?_
          refine sv (yMove h14) ?_
          refine sv (yIxa rfl rfl rfl Try.runUnderlying44 Try.sizeOf3 (by omega) (by omega)) ?_
          refine sv (yLd rfl Try.isAgg3 ((flat_cells encI_len (row_at (show w.ownsRow 0 3 1 (.slice (some ⟨gr, 0, none⟩) (k + 1) capr) (k + 1) ((lv ++ [x]).flatMap encI) from by rw [List.flatMap_append]; exact hS.row (.slice (some ⟨gr, 0, none⟩) (k + 1) capr)) rfl (by omega)) hy).one)) ?_
          refine sv (yGtr rfl rfl) ?_
          refine nil ?_
          show Code.wp _ _ _ _ _
          refine cond rfl (fun c108 => ?_) (fun c108 => ?_)
          ·
            simp only [Bool.and_eq_true, Bool.or_eq_true, Bool.and_eq_false_iff, Bool.or_eq_false_iff, decide_eq_true_eq, decide_eq_false_iff_not, Bool.not_eq_true, Bool.not_eq_false, Bool.not_not, Bool.not_eq_eq_eq_not, Bool.not_true, Bool.not_false, Bool.false_eq_true, Bool.true_eq_false, ne_eq, Decidable.not_not, not_false_eq_true, not_true_eq_false] at c108
            rw [← hyd] at c108
            refine region ?_
            refine sv (yMove h15) ?_
            refine sv (yAsg rfl) ?_
            refine nil ?_
            show Code.wp _ _ _ _ _
            refine region ?_
            refine sv (yMove h15) ?_
            refine sv (yAdd rfl rfl ⟨by omega, by omega⟩) ?_
            refine sv (yAsg rfl) ?_
            refine nil ?_
            exact ⟨_, _, rfl, ⟨k + 1, k, _, lv ++ [x], h2, h7, h9, h11, rfl, rfl, rfl, (by rw [List.flatMap_append]; exact hS.sub (.cons _ (List.Sublist.refl _))), (by omega), (hM.here hx hxb (by omega)), rfl⟩, by omega⟩
          ·
            simp only [Bool.and_eq_true, Bool.or_eq_true, Bool.and_eq_false_iff, Bool.or_eq_false_iff, decide_eq_true_eq, decide_eq_false_iff_not, Bool.not_eq_true, Bool.not_eq_false, Bool.not_not, Bool.not_eq_eq_eq_not, Bool.not_true, Bool.not_false, Bool.false_eq_true, Bool.true_eq_false, ne_eq, Decidable.not_not, not_false_eq_true, not_true_eq_false] at c108
            rw [← hyd] at c108
            refine skip ?_
            show Code.wp _ _ _ _ _
            refine region ?_
            refine sv (yMove h15) ?_
            refine sv (yAdd rfl rfl ⟨by omega, by omega⟩) ?_
            refine sv (yAsg rfl) ?_
            refine nil ?_
            exact ⟨_, _, rfl, ⟨k + 1, most, _, lv ++ [x], h2, h7, h9, h11, rfl, h14, rfl, (by rw [List.flatMap_append]; exact hS.sub (.cons _ (List.Sublist.refl _))), (by omega), (hM.stay hx hxb (by omega)), rfl⟩, by omega⟩
      ·
        simp only [Bool.and_eq_true, Bool.or_eq_true, Bool.and_eq_false_iff, Bool.or_eq_false_iff, decide_eq_true_eq, decide_eq_false_iff_not, Bool.not_eq_true, Bool.not_eq_false, Bool.not_not, Bool.not_eq_eq_eq_not, Bool.not_true, Bool.not_false, Bool.false_eq_true, Bool.true_eq_false, ne_eq, Decidable.not_not, not_false_eq_true, not_true_eq_false] at c67
        obtain rfl : k = l.length := by omega
        obtain ⟨hml, hcm⟩ := hM.can hne
        have hmH : a + (most : Int) ∈ H := by rw [hHe]; exact highsK_has hml hcm
        refine exit ?_
        show Code.wp _ _ _ _ _
        refine seq ?_
        refine region ?_
        refine sv (yAsg rfl) ?_
        refine nil ?_
        show Code.wp _ _ _ _ _
        refine seq ?_
        refine seq ?_
        refine region ?_
        refine sv (yAsg rfl) ?_
        refine nil ?_
        show Code.wp _ _ _ _ _
        refine block ?_
        refine loop (fun f w zz => ∃ (i : Nat), f 7 = .int .i64 a ∧ f 9 = .slice ah H.length caph ∧ f 11 = .slice al l.length capl ∧ f 14 = .int .i64 (most : Int) ∧ f 17 = .bool (fndB H a most i) ∧ f 18 = .int .i64 (i : Int) ∧ St w0 w [rowI (.slice al l.length capl) 38 2 l.length (l.flatMap spanC), rowI (.slice ah H.length caph) 3 1 H.length (H.flatMap encI)] ∧ (i ≤ H.length) ∧ zz = H.length - i) _ ⟨_, rfl, 0, h7, h9, h11, h14, rfl, rfl, (hS.sub (.cons _ (List.Sublist.refl _))), (Nat.zero_le _), rfl⟩ ?_
        clear hS
        rintro f w _ ⟨i, h7, h9, h11, h14, h17, h18, hS, hi, rfl⟩
        refine seq ?_
        refine seq ?_
        refine region ?_
        refine sv (yMove h18) ?_
        refine sv (yMove h9) ?_
        refine sv (yLen rfl Try.underlying44) ?_
        refine sv (yLss rfl rfl) ?_
        refine nil ?_
        show Code.wp _ _ _ _ _
        refine cond rfl (fun c113 => ?_) (fun c113 => ?_)
        ·
          simp only [Bool.and_eq_true, Bool.or_eq_true, Bool.and_eq_false_iff, Bool.or_eq_false_iff, decide_eq_true_eq, decide_eq_false_iff_not, Bool.not_eq_true, Bool.not_eq_false, Bool.not_not, Bool.not_eq_eq_eq_not, Bool.not_true, Bool.not_false, Bool.false_eq_true, Bool.true_eq_false, ne_eq, Decidable.not_not, not_false_eq_true, not_true_eq_false] at c113
          obtain ⟨y, hy, _⟩ := drop_of (l := H) (k := i) (by omega)
          obtain ⟨gh, hah, hch⟩ := row_get (hS.row (.slice ah H.length caph)) (by omega)
          obtain ⟨c, rfl, hcl, hcc⟩ := highsK_mem y (by rw [← hHe]; exact List.mem_of_getElem? hy)
          obtain ⟨s, hx, hd⟩ := drop_of (l := l) (k := c) (by omega)
          obtain ⟨g, hag, hcg⟩ := row_get (hS.row (.slice al l.length capl)) (by omega)
          have hcs := flat_cells spanC_len hcg hx
          have hso := hsp s (List.mem_of_getElem? hx)
          obtain ⟨z, hyz⟩ : ∃ z, 0 < i → H[i - 1]? = some z := by
            by_cases h0 : 0 < i
            · exact ⟨H[i - 1]'(by omega), fun _ => List.getElem?_eq_getElem _⟩
            · exact ⟨0, fun h => absurd h h0⟩
          have hzy : 0 < i → z < a + (c : Int) := fun h => asc_step hasc h (hyz h) hy
          refine skip ?_
          show Code.wp _ _ _ _ _
          refine seq ?_
          refine block ?_
          refine seq ?_
          refine region ?_
          refine sv (yMove h9) ?_
          refine sv (yMove h18) ?_
          refine sv (yIxa rfl hah rfl Try.runUnderlying44 Try.sizeOf3 (by omega) (by omega)) ?_
          refine sv (yLd rfl Try.isAgg3 ((flat_cells encI_len (row_at (hS.row (.slice ah H.length caph)) hah (by omega)) hy).one)) ?_
          refine sv (yMove h7) ?_
          refine sv (Y.to (ySub rfl rfl ⟨by omega, by omega⟩) (show Value.int .i64 (a + (c : Int) - a) = .int .i64 (c : Int) by congr 1; omega)) ?_
          refine sv (yAsg rfl) ?_
          refine nil ?_
          show Code.wp _ _ _ _ _
          refine seq ?_
          refine seq ?_
          refine region_draw mixed (by kernel_rfl) hS ?_
          refine qv (fun w hS => (yMove rfl)) ?_
          refine qv (fun w hS => (yLss rfl rfl)) ?_
          refine qv (fun w hS => (yMove rfl)) ?_
          refine qg rfl rfl rfl (fun g w hS => (yMove rfl)) (fun v125 g125 => ?_)
          refine qg rfl rfl rfl (fun g w hS => (yMove h11)) (fun v126 g126 => ?_)
          refine qg rfl rfl rfl (fun g w hS => (yLen (g126.1 g) Try.underlying61)) (fun v127 g127 => ?_)
          refine qg rfl rfl rfl (fun g w hS => (yGeq (g125.1 g) (g127.1 g))) (fun v128 g128 => ?_)
          refine qv (fun w hS => (yOr rfl rfl (fun hB => (g128.1 hB)))) ?_
          refine qv (fun w hS => (yMove rfl)) ?_
          refine qg rfl rfl rfl (fun g w hS => (yMove h18)) (fun v131 g131 => ?_)
          refine qg rfl rfl rfl (fun g w hS => (yGtr (g131.1 g) rfl)) (fun v132 g132 => ?_)
          refine qg rfl rfl rfl (fun g w hS => (yMove (g132.1 g))) (fun v133 g133 => ?_)
          refine qgg rfl rfl g133 (fun g w hS => (yMove h9)) (fun v134 g134 => ?_)
          refine qgg rfl rfl g133 (fun g w hS => (yMove h18)) (fun v135 g135 => ?_)
          refine qgg rfl rfl g133 (fun g w hS => (yIxa (g134.1 g) hah (g135.1 g) Try.runUnderlying44 Try.sizeOf3 (by omega) (by omega))) (fun v136 g136 => ?_)
          refine qgg rfl rfl g133 (fun g w hS => (yLd (g136.1 g) Try.isAgg3 ((flat_cells encI_len (row_at (hS.row (.slice ah H.length caph)) hah (by omega)) hy).one))) (fun v137 g137 => ?_)
          refine qgg rfl rfl g133 (fun g w hS => (yMove h9)) (fun v138 g138 => ?_)
          refine qgg rfl rfl g133 (fun g w hS => (yMove h18)) (fun v139 g139 => ?_)
          refine qgg rfl rfl g133 (fun g w hS => (Y.to (ySub (g139.1 g) rfl (by have := of_decide_eq_true g.2; exact ⟨by omega, by omega⟩)) (show Value.int .i64 ((i : Int) - 1) = .int .i64 ((i - 1 : Nat) : Int) by have := of_decide_eq_true g.2; congr 1; omega))) (fun v140 g140 => ?_)
          refine qgg rfl rfl g133 (fun g w hS => (yIxa (g138.1 g) hah (g140.1 g) Try.runUnderlying44 Try.sizeOf3 (by omega) (by omega))) (fun v141 g141 => ?_)
          refine qgg rfl rfl g133 (fun g w hS => (yLd (g141.1 g) Try.isAgg3 ((flat_cells encI_len (row_at (hS.row (.slice ah H.length caph)) hah (by omega)) (hyz (by have := of_decide_eq_true g.2; omega))).one))) (fun v142 g142 => ?_)
          refine qgg rfl rfl g133 (fun g w hS => (yLeq (g137.1 g) (g142.1 g))) (fun v143 g143 => ?_)
          refine qg rfl rfl rfl (fun g w hS => (yAnd (g133.1 g) (fun hB => (g143.1 ⟨g, hB⟩)) rfl)) (fun v144 g144 => ?_)
          refine qv (fun w hS => (yOr rfl rfl (fun hB => (g144.1 hB)))) ?_
          clear hS; refine qnil (fun w hS => ?_)
          show Code.wp _ _ _ _ _
          refine cond rfl (fun c145 => ?_) (fun c145 => ?_)
          ·
            exfalso
            simp only [Bool.and_eq_true, Bool.or_eq_true, Bool.and_eq_false_iff, Bool.or_eq_false_iff, decide_eq_true_eq, decide_eq_false_iff_not, Bool.not_eq_true, Bool.not_eq_false, Bool.not_not, Bool.not_eq_eq_eq_not, Bool.not_true, Bool.not_false, Bool.false_eq_true, Bool.true_eq_false, ne_eq, Decidable.not_not, not_false_eq_true, not_true_eq_false] at c145
            omega
          ·
            refine skip ?_
            show Code.wp _ _ _ _ _
            refine seq ?_
            refine region ?_
            refine sv (yMove h17) ?_
            refine sv (yMove rfl) ?_
            refine sg rfl rfl rfl (fun g => (yMove rfl)) (fun v148 g148 => ?_)
            refine sg rfl rfl rfl (fun g => (yMove h14)) (fun v149 g149 => ?_)
            refine sg rfl rfl rfl (fun g => (yEql (g148.1 g) (g149.1 g))) (fun v150 g150 => ?_)
            refine sv (yOr rfl rfl (fun hB => (g150.1 hB))) ?_
            refine sv (yAsg rfl) ?_
            refine nil ?_
            show Code.wp _ _ _ _ _
            refine seq ?_
            refine region ?_
            refine sv (yAsg rfl) ?_
            refine nil ?_
            show Code.wp _ _ _ _ _
            refine block ?_
            refine loop (fun f w zz => ∃ (j : Nat), f 7 = .int .i64 a ∧ f 9 = .slice ah H.length caph ∧ f 11 = .slice al l.length capl ∧ f 14 = .int .i64 (most : Int) ∧ f 17 = .bool (fndB H a most (i + 1)) ∧ f 18 = .int .i64 (i : Int) ∧ f 19 = .int .i64 (c : Int) ∧ f 20 = .int .i64 (j : Int) ∧ St w0 w [rowI (.slice al l.length capl) 38 2 l.length (l.flatMap spanC), rowI (.slice ah H.length caph) 3 1 H.length (H.flatMap encI)] ∧ (j ≤ l.length) ∧ zz = l.length - j) _ ⟨_, rfl, 0, h7, h9, h11, h14, (by rw [fndB_succ hy, show a + (c : Int) - a = (c : Int) by omega]; exact rfl), h18, rfl, rfl, hS, (Nat.zero_le _), rfl⟩ ?_
            clear hS
            rintro f w _ ⟨j, h7, h9, h11, h14, h17, h18, h19, h20, hS, hj, rfl⟩
            refine seq ?_
            refine seq ?_
            refine region ?_
            refine sv (yMove h20) ?_
            refine sv (yMove h11) ?_
            refine sv (yLen rfl Try.underlying61) ?_
            refine sv (yLss rfl rfl) ?_
            refine nil ?_
            show Code.wp _ _ _ _ _
            refine cond rfl (fun c155 => ?_) (fun c155 => ?_)
            ·
              simp only [Bool.and_eq_true, Bool.or_eq_true, Bool.and_eq_false_iff, Bool.or_eq_false_iff, decide_eq_true_eq, decide_eq_false_iff_not, Bool.not_eq_true, Bool.not_eq_false, Bool.not_not, Bool.not_eq_eq_eq_not, Bool.not_true, Bool.not_false, Bool.false_eq_true, Bool.true_eq_false, ne_eq, Decidable.not_not, not_false_eq_true, not_true_eq_false] at c155
              obtain ⟨u, hxq, hdq⟩ := drop_of (l := l) (k := j) (by omega)
              obtain ⟨gq, hagq, hcgq⟩ := row_get (hS.row (.slice al l.length capl)) (by omega)
              have hcsq := flat_cells spanC_len hcgq hxq
              have hsoq := hsp u (List.mem_of_getElem? hxq)
              refine skip ?_
              show Code.wp _ _ _ _ _
              refine seq ?_
              refine block ?_
              refine seq ?_
              refine region_draw mixed (by kernel_rfl) hS ?_
              refine qv (fun w hS => (yMove h11)) ?_
              refine qv (fun w hS => (yMove h20)) ?_
              refine qv (fun w hS => (yIxa rfl hagq rfl Try.runUnderlying61 Try.sizeOf38 (by omega) (by omega))) ?_
              refine qv (fun w hS => (fa38_0 rfl)) ?_
              refine qv (fun w hS => (yLd rfl Try.isAgg3 ((flat_cells spanC_len (row_at (hS.row (.slice al l.length capl)) hagq (by omega)) hxq).one))) ?_
              refine qv (fun w hS => (yMove h11)) ?_
              refine qv (fun w hS => (yMove h19)) ?_
              refine qv (fun w hS => (yIxa rfl hag rfl Try.runUnderlying61 Try.sizeOf38 (by omega) (by omega))) ?_
              refine qv (fun w hS => (fa38_1 rfl)) ?_
              refine qv (fun w hS => (yLd rfl Try.isAgg3 ((flat_cells spanC_len (row_at (hS.row (.slice al l.length capl)) hag (by omega)) hx).at (j := 1) rfl))) ?_
              refine qv (fun w hS => (yGtr rfl rfl)) ?_
              clear hS; refine qnil (fun w hS => ?_)
              show Code.wp _ _ _ _ _
              refine cond rfl (fun c168 => ?_) (fun c168 => ?_)
              ·
                simp only [Bool.and_eq_true, Bool.or_eq_true, Bool.and_eq_false_iff, Bool.or_eq_false_iff, decide_eq_true_eq, decide_eq_false_iff_not, Bool.not_eq_true, Bool.not_eq_false, Bool.not_not, Bool.not_eq_eq_eq_not, Bool.not_true, Bool.not_false, Bool.false_eq_true, Bool.true_eq_false, ne_eq, Decidable.not_not, not_false_eq_true, not_true_eq_false] at c168
                exfalso
                have := List.all_eq_true.1 hcc u (List.mem_of_getElem? hxq)
                rw [decide_eq_true_eq, getD_hit hx] at this
                omega
              ·
                simp only [Bool.and_eq_true, Bool.or_eq_true, Bool.and_eq_false_iff, Bool.or_eq_false_iff, decide_eq_true_eq, decide_eq_false_iff_not, Bool.not_eq_true, Bool.not_eq_false, Bool.not_not, Bool.not_eq_eq_eq_not, Bool.not_true, Bool.not_false, Bool.false_eq_true, Bool.true_eq_false, ne_eq, Decidable.not_not, not_false_eq_true, not_true_eq_false] at c168
                refine skip ?_
                show Code.wp _ _ _ _ _
                refine region ?_
                refine sv (yMove h20) ?_
                refine sv (yAdd rfl rfl ⟨by omega, by omega⟩) ?_
                refine sv (yAsg rfl) ?_
                refine nil ?_
                exact ⟨_, _, rfl, ⟨j + 1, h7, h9, h11, h14, h17, h18, h19, rfl, hS, (by omega), rfl⟩, by omega⟩
            ·
              simp only [Bool.and_eq_true, Bool.or_eq_true, Bool.and_eq_false_iff, Bool.or_eq_false_iff, decide_eq_true_eq, decide_eq_false_iff_not, Bool.not_eq_true, Bool.not_eq_false, Bool.not_not, Bool.not_eq_eq_eq_not, Bool.not_true, Bool.not_false, Bool.false_eq_true, Bool.true_eq_false, ne_eq, Decidable.not_not, not_false_eq_true, not_true_eq_false] at c155
              refine exit ?_
              show Code.wp _ _ _ _ _
              refine region ?_
              refine sv (yMove h18) ?_
              refine sv (yAdd rfl rfl ⟨by omega, by omega⟩) ?_
              refine sv (yAsg rfl) ?_
              refine nil ?_
              exact ⟨_, _, rfl, ⟨i + 1, h7, h9, h11, h14, h17, rfl, hS, (by omega), rfl⟩, by omega⟩
        ·
          simp only [Bool.and_eq_true, Bool.or_eq_true, Bool.and_eq_false_iff, Bool.or_eq_false_iff, decide_eq_true_eq, decide_eq_false_iff_not, Bool.not_eq_true, Bool.not_eq_false, Bool.not_not, Bool.not_eq_eq_eq_not, Bool.not_true, Bool.not_false, Bool.false_eq_true, Bool.true_eq_false, ne_eq, Decidable.not_not, not_false_eq_true, not_true_eq_false] at c113
          obtain rfl : i = H.length := by omega
          have hfin : fndB H a most H.length = true := by
            unfold fndB
            rw [List.take_length, List.any_eq_true]
            exact ⟨_, hmH, by rw [decide_eq_true_eq]; omega⟩
          refine exit ?_
          show Code.wp _ _ _ _ _
          refine seq ?_
          refine region ?_
          refine sv (yMove h17) ?_
          refine sv (yMove rfl) ?_
          refine sgc hS rfl rfl rfl Try.call23 (fun g => .nil) (fun g => c_Awake) ?_; clear hS; intro v171 w hS g171
          refine sv (yAnd rfl (fun hB => (g171.1 hB)) rfl) ?_
          refine sv (yAsg rfl) ?_
          refine nil ?_
          show Code.wp _ _ _ _ _
          refine wp_ret ?_
          exact retV (res1 rfl (eqB (by rw [hfin]; simp))) hS.ext
end Go.Proofs.Ytpgmehignepidaa
