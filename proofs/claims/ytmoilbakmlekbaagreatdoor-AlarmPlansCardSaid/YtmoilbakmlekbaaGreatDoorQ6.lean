/- Merged texts, part 6. -/
import Derived.Test.YtmoilbakmlekbaaGreatDoorQ5
import Derived.Test.YtmoilbakmlekbaaGreatDoorProg
import Derived.Test.YtmoilbakmlekbaaGreatDoorRows
import Derived.ChangeSame
import Derived.ChangeVars
import Derived.JoinedOf
import Derived.RowKit
import Derived.RowKitTokens
import Derived.LaidLaws
import Derived.LaidHandle
import Derived.Stop.Joined
set_option linter.all false
/- part Aw44 -/
namespace Go.Proofs.YtmoilbakmlekbaaGreatDoor
open Go Bx
set_option maxHeartbeats 1000000 in
/-- barrage/barrageref11.latest -/
theorem c_rlatest {t : Task} {hv nv fv : Value} {i c : Int} {w0 : World} (h : RTask w0 [.int .i64 t.polders, hv, nv, fv] t) (hok : TaskOk t) (hi : 0 ≤ i ∧ i < t.towns.length) (hc : 0 ≤ c ∧ c < t.chans.length) : CV Tryz.prog 121 #[.agg [.int .i64 t.polders, hv, nv, fv].toArray, .int .i64 i, .int .i64 c] w0 (.int .i64 (latestF t i c)) := by
  obtain ⟨hv', nv', fv', he0, hpol, hsh, hsn, hsf⟩ := id h
  obtain ⟨rfl, rfl, rfl⟩ : hv' = hv ∧ nv' = nv ∧ fv' = fv := by simpa [eq_comm] using he0
  obtain ⟨a1, cap1, rfl, hcap1, hmx1, hel1⟩ := id hsh
  obtain ⟨a2, cap2, rfl, hcap2, hmx2, hel2⟩ := id hsn
  obtain ⟨a3, cap3, rfl, hcap3, hmx3, hel3⟩ := id hsf
  obtain ⟨bt, ot, cst, hat, hlt, hcst, hRt, -⟩ := sl_at hsn (twn_i (t := t) hi)
  obtain ⟨dvt, rfl, -, -, -, -, hslt, -⟩ := hRt
  have hto := town_ok hok hi
  have htl := hto.lead
  obtain ⟨bc, oc, csc, hac, hlc, hcsc, hRc, -⟩ := sl_at hsh (chn_i (t := t) hc)
  obtain ⟨rfl, -⟩ := hRc
  have hco := chan_ok hok hc
  have hab := arr_bd hok hi
  refine enter Tryz.func121 rfl Tryz.ntmps121 rfl ?_
  have hS := St.start w0
  refine seq ?_
  refine region ?_
  refine sbox hS rfl rfl ?_; clear hS; intro b3 w hS
  refine sv (yAsg rfl) ?_
  refine nil ?_
  show Code.wp _ _ _ _ _
  refine seq ?_
  refine region_draw mixed (by kernel_rfl) hS ?_
  refine qv (fun w hS => (yLdBA rfl Tryz.isAgg26 Tryz.sizeOf26 (hS.at _) rfl rfl)) ?_
  refine qv (fun w hS => (yMove rfl)) ?_
  refine qcall Tryz.call80 (.cons rfl (.cons rfl .nil)) (fun w hS => (c_rearl (h.ext hS.ext) hok hi)) ?_
  refine qv (fun w hS => (fa26_2 rfl)) ?_
  refine qv (fun w hS => (yLdB rfl Tryz.isAgg23 (hS.at _) rfl)) ?_
  refine qv (fun w hS => (yMove rfl)) ?_
  refine qv (fun w hS => (yIxa rfl hat rfl Tryz.runUnderlying23 Tryz.sizeOf36 (by omega) (by omega))) ?_
  refine qv (fun w hS => (fa36_3 rfl)) ?_
  refine qv (fun w hS => (yLd rfl Tryz.isAgg3 ((hcst.ext hS.ext).at (j := 3) rfl))) ?_
  refine qv (fun w hS => (ySub rfl rfl ⟨by omega, by omega⟩)) ?_
  refine qv (fun w hS => (fa26_1 rfl)) ?_
  refine qv (fun w hS => (yLdB rfl Tryz.isAgg22 (hS.at _) rfl)) ?_
  refine qv (fun w hS => (yMove rfl)) ?_
  refine qv (fun w hS => (yIxa rfl hac rfl Tryz.runUnderlying22 Tryz.sizeOf41 (by omega) (by omega))) ?_
  refine qv (fun w hS => (fa41_1 rfl)) ?_
  refine qv (fun w hS => (yLd rfl Tryz.isAgg3 ((hcsc.ext hS.ext).at (j := 1) rfl))) ?_
  refine qv (fun w hS => (ySub rfl rfl ⟨by omega, by omega⟩)) ?_
  refine qv (fun w hS => (yMin rfl rfl)) ?_
  refine qv (fun w hS => (yAsg rfl)) ?_
  clear hS; refine qnil (fun w hS => ?_)
  show Code.wp _ _ _ _ _
  refine wp_ret ?_
  exact retV (res1 rfl rfl) hS.ext
/-- barrage/barrageref11.used -/
theorem c_rused {l : List Slot} {lv : Value} {c s : Int} {w0 : World} (hl : Sl w0 3 RSlot lv l) (hll : l.length ≤ 1000) : CV Tryz.prog 122 #[lv, .int .i64 c, .int .i64 s] w0 (.int .i64 (usedN l (c, s) : Int)) := by
  obtain ⟨al, cl, rfl, hlcap, hlmx, hlel⟩ := id hl
  refine enter Tryz.func122 rfl Tryz.ntmps122 rfl ?_
  have hS := St.start w0
  refine seq ?_
  refine region ?_
  refine sv (yAsg rfl) ?_
  refine nil ?_
  show Code.wp _ _ _ _ _
  refine seq ?_
  refine region ?_
  refine sv (yAsg rfl) ?_
  refine nil ?_
  show Code.wp _ _ _ _ _
  refine seq ?_
  refine seq ?_
  refine region ?_
  refine sv (yAsg rfl) ?_
  refine nil ?_
  show Code.wp _ _ _ _ _
  refine block ?_
  refine loop (fun f w zz => ∃ (k : Nat), f 0 = .slice al l.length cl ∧ f 1 = .int .i64 c ∧ f 2 = .int .i64 s ∧ f 7 = .int .i64 (usedN (l.take k) (c, s) : Int) ∧ f 8 = .int .i64 (k : Int) ∧ StX [] w0 w [] ∧ (k ≤ l.length) ∧ zz = l.length - k) _ ⟨_, rfl, 0, rfl, rfl, rfl, rfl, rfl, hS, (Nat.zero_le _), rfl⟩ ?_
  clear hS
  rintro f w _ ⟨k, h0, h1, h2, h7, h8, hS, hk, rfl⟩
  refine seq ?_
  refine seq ?_
  refine region ?_
  refine sv (yMove h8) ?_
  refine sv (yMove h0) ?_
  refine sv (yLen rfl Tryz.underlying27) ?_
  refine sv (yLss rfl rfl) ?_
  refine nil ?_
  show Code.wp _ _ _ _ _
  refine cond rfl (fun c12 => ?_) (fun c12 => ?_)
  ·
    simp only [Bool.and_eq_true, Bool.or_eq_true, Bool.and_eq_false_iff, Bool.or_eq_false_iff, decide_eq_true_eq, decide_eq_false_iff_not, Bool.not_eq_true, Bool.not_eq_false, Bool.not_not, Bool.not_eq_eq_eq_not, Bool.not_true, Bool.not_false, Bool.false_eq_true, Bool.true_eq_false, ne_eq, Decidable.not_not, not_false_eq_true, not_true_eq_false] at c12
    obtain ⟨x, hx, -⟩ := drop_of (l := l) (k := k) (by omega)
    obtain ⟨bx, ox, csx, hax, hlx, hcsx, hRx, -⟩ := sl_at hl hx
    obtain ⟨rfl, -⟩ := hRx
    have hub : usedN (l.take k) (c, s) ≤ k := Nat.le_trans (List.length_filter_le _ _) (by simp; omega)
    refine skip ?_
    show Code.wp _ _ _ _ _
    refine seq ?_
    refine block ?_
    refine seq ?_
    refine region ?_
    refine sv (yMove h0) ?_
    refine sv (yMove h8) ?_
    refine sv (yIxa rfl hax rfl Tryz.runUnderlying27 Tryz.sizeOf38 (by omega) (by omega)) ?_
    refine sv (fa38_1 rfl) ?_
    refine sv (yLd rfl Tryz.isAgg3 ((hcsx.ext hS.ext).at (j := 1) rfl)) ?_
    refine sv (yMove h1) ?_
    refine sv (yEql rfl rfl) ?_
    refine sv (yMove rfl) ?_
    refine sg rfl rfl rfl (fun g => (yMove h0)) (fun v23 g23 => ?_)
    refine sg rfl rfl rfl (fun g => (yMove h8)) (fun v24 g24 => ?_)
    refine sg rfl rfl rfl (fun g => (yIxa (g23.1 g) hax (g24.1 g) Tryz.runUnderlying27 Tryz.sizeOf38 (by omega) (by omega))) (fun v25 g25 => ?_)
    refine sg rfl rfl rfl (fun g => (fa38_2 (g25.1 g))) (fun v26 g26 => ?_)
    refine sg rfl rfl rfl (fun g => (yLd (g26.1 g) Tryz.isAgg3 ((hcsx.ext hS.ext).at (j := 2) rfl))) (fun v27 g27 => ?_)
    refine sg rfl rfl rfl (fun g => (yMove h2)) (fun v28 g28 => ?_)
    refine sg rfl rfl rfl (fun g => (yEql (g27.1 g) (g28.1 g))) (fun v29 g29 => ?_)
    refine sv (yAnd rfl (fun hB => (g29.1 hB)) rfl) ?_
    refine nil ?_
    show Code.wp _ _ _ _ _
    refine cond rfl (fun c30 => ?_) (fun c30 => ?_)
    ·
      simp only [Bool.and_eq_true, Bool.or_eq_true, Bool.and_eq_false_iff, Bool.or_eq_false_iff, decide_eq_true_eq, decide_eq_false_iff_not, Bool.not_eq_true, Bool.not_eq_false, Bool.not_not, Bool.not_eq_eq_eq_not, Bool.not_true, Bool.not_false, Bool.false_eq_true, Bool.true_eq_false, ne_eq, Decidable.not_not, not_false_eq_true, not_true_eq_false] at c30
      have hpq : x.pl = (c, s) := Prod.ext c30.1 c30.2
      refine region ?_
      refine sv (yMove h7) ?_
      refine sv (yAdd rfl rfl ⟨by omega, by omega⟩) ?_
      refine sv (yAsg rfl) ?_
      refine nil ?_
      show Code.wp _ _ _ _ _
      refine region ?_
      refine sv (yMove h8) ?_
      refine sv (yAdd rfl rfl ⟨by omega, by omega⟩) ?_
      refine sv (yAsg rfl) ?_
      refine nil ?_
      exact ⟨_, _, rfl, ⟨k + 1, h0, h1, h2, (rfl.trans (congrArg (Value.int .i64) (by rw [take_snoc hx, usedN_snoc, if_pos hpq]; push_cast; omega))), rfl, hS, (by omega), rfl⟩, by omega⟩
    ·
      simp only [Bool.and_eq_true, Bool.or_eq_true, Bool.and_eq_false_iff, Bool.or_eq_false_iff, decide_eq_true_eq, decide_eq_false_iff_not, Bool.not_eq_true, Bool.not_eq_false, Bool.not_not, Bool.not_eq_eq_eq_not, Bool.not_true, Bool.not_false, Bool.false_eq_true, Bool.true_eq_false, ne_eq, Decidable.not_not, not_false_eq_true, not_true_eq_false] at c30
      have hpq : ¬ x.pl = (c, s) := fun hh => by
        have h1 : x.channel = c := congrArg Prod.fst hh
        have h2 : x.sent = s := congrArg Prod.snd hh
        omega
      refine skip ?_
      show Code.wp _ _ _ _ _
      refine region ?_
      refine sv (yMove h8) ?_
      refine sv (yAdd rfl rfl ⟨by omega, by omega⟩) ?_
      refine sv (yAsg rfl) ?_
      refine nil ?_
      exact ⟨_, _, rfl, ⟨k + 1, h0, h1, h2, (h7.trans (congrArg (Value.int .i64) (by rw [take_snoc hx, usedN_snoc, if_neg hpq]; push_cast; omega))), rfl, hS, (by omega), rfl⟩, by omega⟩
  ·
    simp only [Bool.and_eq_true, Bool.or_eq_true, Bool.and_eq_false_iff, Bool.or_eq_false_iff, decide_eq_true_eq, decide_eq_false_iff_not, Bool.not_eq_true, Bool.not_eq_false, Bool.not_not, Bool.not_eq_eq_eq_not, Bool.not_true, Bool.not_false, Bool.false_eq_true, Bool.true_eq_false, ne_eq, Decidable.not_not, not_false_eq_true, not_true_eq_false] at c12
    obtain rfl : k = l.length := by omega
    rw [List.take_length] at h7
    refine exit ?_
    show Code.wp _ _ _ _ _
    refine seq ?_
    refine region ?_
    refine sv (yMove h7) ?_
    refine sv (yAsg rfl) ?_
    refine nil ?_
    show Code.wp _ _ _ _ _
    refine wp_ret ?_
    exact retV (res1 rfl rfl) hS.ext
/-- barrage/barragelaw11.Many -/
theorem c_Many {t : Task} {hv nv fv : Value} {w0 : World} (h : RTask w0 [.int .i64 t.polders, hv, nv, fv] t) : CV Tryz.prog 36 #[.agg [.int .i64 t.polders, hv, nv, fv].toArray] w0 (.bool (decide ((4 : Int) < t.towns.length) && decide ((t.towns.length : Int) ≤ 8))) := by
  obtain ⟨hv', nv', fv', he0, hpol, hsh, hsn, hsf⟩ := id h
  obtain ⟨rfl, rfl, rfl⟩ : hv' = hv ∧ nv' = nv ∧ fv' = fv := by simpa [eq_comm] using he0
  obtain ⟨a1, cap1, rfl, hcap1, hmx1, hel1⟩ := id hsh
  obtain ⟨a2, cap2, rfl, hcap2, hmx2, hel2⟩ := id hsn
  obtain ⟨a3, cap3, rfl, hcap3, hmx3, hel3⟩ := id hsf
  refine enter Tryz.func36 rfl Tryz.ntmps36 rfl ?_
  have hS := St.start w0
  refine seq ?_
  refine region ?_
  refine sbox hS rfl rfl ?_; clear hS; intro b1 w hS
  refine sv (yAsg rfl) ?_
  refine nil ?_
  show Code.wp _ _ _ _ _
  refine seq ?_
  refine region ?_
  refine sv (fa26_2 rfl) ?_
  refine sv (yLdB rfl Tryz.isAgg23 (hS.at _) rfl) ?_
  refine sv (yLen rfl Tryz.underlying23) ?_
  refine sv (yGtr rfl rfl) ?_
  refine sv (yMove rfl) ?_
  refine sg rfl rfl rfl (fun g => (fa26_2 rfl)) (fun v8 g8 => ?_)
  refine sg rfl rfl rfl (fun g => (yLdB (g8.1 g) Tryz.isAgg23 (hS.at _) rfl)) (fun v9 g9 => ?_)
  refine sg rfl rfl rfl (fun g => (yLen (g9.1 g) Tryz.underlying23)) (fun v10 g10 => ?_)
  refine sg rfl rfl rfl (fun g => (yLeq (g10.1 g) rfl)) (fun v11 g11 => ?_)
  refine sv (yAnd rfl (fun hB => (g11.1 hB)) rfl) ?_
  refine sv (yAsg rfl) ?_
  refine nil ?_
  show Code.wp _ _ _ _ _
  refine wp_ret ?_
  exact retV (res1 rfl rfl) hS.ext
set_option maxHeartbeats 4000000 in
/-- barrage/barrageref11.plan -/
theorem c_rplan1 {t : Task} {hv nv fv : Value} {now : Int} {r : List Int} {l : List Slot} {lv wv : Value} {w0 : World} (h : RTask w0 [.int .i64 t.polders, hv, nv, fv] t) (hok : TaskOk t) (hn : 0 ≤ now ∧ now ≤ 200000) (hwv : Sl w0 1 RInt wv (wetL t)) (hl : Sl w0 3 RSlot lv l) (hr : (wetL t).drop l.length = r) (hle : l.length ≤ (wetL t).length) (ih : ∀ (i : Int) (r2 : List Int), r = i :: r2 → ∀ (l : List Slot) (lv : Value) (w : World), RTask w [.int .i64 t.polders, hv, nv, fv] t → Sl w 1 RInt wv (wetL t) → Sl w 3 RSlot lv l → ((wetL t)).drop l.length = r2 → l.length ≤ (wetL t).length → CE Tryz.prog 91 #[.agg [.int .i64 t.polders, hv, nv, fv].toArray, .int .i64 now, wv, lv] w (fun u w' => ∃ v, u = .tuple #[v, .bool ((plT t now).ref r2 l).isSome] ∧ Sl w' 3 RSlot v (((plT t now).ref r2 l).getD []) ∧ Ext w w')) : CE Tryz.prog 91 #[.agg [.int .i64 t.polders, hv, nv, fv].toArray, .int .i64 now, wv, lv] w0 (fun u w' => ∃ v, u = .tuple #[v, .bool ((plT t now).ref r l).isSome] ∧ Sl w' 3 RSlot v (((plT t now).ref r l).getD []) ∧ Ext w0 w') := by
  obtain ⟨hv', nv', fv', he0, hpol, hsh, hsn, hsf⟩ := id h
  obtain ⟨rfl, rfl, rfl⟩ : hv' = hv ∧ nv' = nv ∧ fv' = fv := by simpa [eq_comm] using he0
  obtain ⟨a1, cap1, rfl, hcap1, hmx1, hel1⟩ := id hsh
  obtain ⟨a2, cap2, rfl, hcap2, hmx2, hel2⟩ := id hsn
  obtain ⟨a3, cap3, rfl, hcap3, hmx3, hel3⟩ := id hsf
  obtain ⟨al, cl, rfl, hlcap, hlmx, hlel⟩ := id hl
  obtain ⟨aw, cw, rfl, -⟩ := id hwv
  have hn8 := hok.ntw
  have hwl := wetL_len t
  refine enter Tryz.func91 rfl Tryz.ntmps91 rfl ?_
  have hS := St.start w0
  refine seq ?_
  refine region ?_
  refine sbox hS rfl rfl ?_; clear hS; intro b4 w hS
  refine sv (yAsg rfl) ?_
  refine sv (yAsg rfl) ?_
  refine nil ?_
  show Code.wp _ _ _ _ _
  refine seq ?_
  refine seq ?_
  refine region ?_
  refine sv (yMove rfl) ?_
  refine sv (yLen rfl Tryz.underlying27) ?_
  refine sv (yMove rfl) ?_
  refine sv (yLen rfl Tryz.underlying34) ?_
  refine sv (yEql rfl rfl) ?_
  refine nil ?_
  show Code.wp _ _ _ _ _
  refine cond rfl (fun c20 => ?_) (fun c20 => ?_)
  ·
    simp only [Bool.and_eq_true, Bool.or_eq_true, Bool.and_eq_false_iff, Bool.or_eq_false_iff, decide_eq_true_eq, decide_eq_false_iff_not, Bool.not_eq_true, Bool.not_eq_false, Bool.not_not, Bool.not_eq_eq_eq_not, Bool.not_true, Bool.not_false, Bool.false_eq_true, Bool.true_eq_false, ne_eq, Decidable.not_not, not_false_eq_true, not_true_eq_false] at c20
    refine seq ?_
    refine region ?_
    refine sv (yMove rfl) ?_
    refine sv (yAsg rfl) ?_
    refine sv (yAsg rfl) ?_
    refine nil ?_
    show Code.wp _ _ _ _ _
    refine wp_ret (thenR ?_)
    refine retQ (res2 rfl rfl rfl) ?_
    have hr0 : r = [] := by rw [← hr]; exact List.drop_of_length_le (by omega)
    subst hr0
    exact ⟨_, rfl, hl.ext RSlot.stays hS.ext, hS.ext⟩
  ·
    simp only [Bool.and_eq_true, Bool.or_eq_true, Bool.and_eq_false_iff, Bool.or_eq_false_iff, decide_eq_true_eq, decide_eq_false_iff_not, Bool.not_eq_true, Bool.not_eq_false, Bool.not_not, Bool.not_eq_eq_eq_not, Bool.not_true, Bool.not_false, Bool.false_eq_true, Bool.true_eq_false, ne_eq, Decidable.not_not, not_false_eq_true, not_true_eq_false] at c20
    obtain ⟨i, hiw, hdr⟩ := drop_of (l := (wetL t)) (k := l.length) (by omega)
    obtain ⟨r2, hr2⟩ : ∃ r2, r2 = (wetL t).drop (l.length + 1) := ⟨_, rfl⟩
    rw [hdr, ← hr2] at hr
    subst hr
    have hiB := wet_mem (List.mem_of_getElem? hiw)
    obtain ⟨bw, ow, csw, haw, hlw, hcsw, hRw, -⟩ := sl_at hwv hiw
    obtain ⟨rfl, -⟩ := hRw
    obtain ⟨bt, ot, cst, hat, hlt, hcst, hRt, -⟩ := sl_at hsn (twn_i (t := t) hiB)
    obtain ⟨dvt, rfl, -, -, -, -, hslt, -⟩ := hRt
    have hto := town_ok hok hiB
    have htl := hto.lead
    obtain ⟨ad, cd, rfl, -⟩ := id hslt
    have hcl4 := chans_len hok hiB
    refine skip ?_
    show Code.wp _ _ _ _ _
    refine seq ?_
    refine region ?_
    refine sv (yMove rfl) ?_
    refine sv (yMove rfl) ?_
    refine sv (yLen rfl Tryz.underlying27) ?_
    refine sv (yIxa rfl haw rfl Tryz.runUnderlying34 Tryz.sizeOf3 (by omega) (by omega)) ?_
    refine sv (yLd rfl Tryz.isAgg3 ((hcsw.ext hS.ext).one)) ?_
    refine sv (yAsg rfl) ?_
    refine nil ?_
    show Code.wp _ _ _ _ _
    refine seq ?_
    refine seq ?_
    refine region ?_
    refine sv (yMove rfl) ?_
    refine sv (yAsg rfl) ?_
    refine nil ?_
    show Code.wp _ _ _ _ _
    refine block ?_
    refine loop (fun f w zz => ∃ (d : Nat), f 1 = .int .i64 now ∧ f 2 = .slice aw (wetL t).length cw ∧ f 3 = .slice al l.length cl ∧ f 4 = .pointer (some ⟨b4, 0, none⟩) ∧ f 10 = .int .i64 i ∧ f 11 = .int .i64 (now + (d : Int)) ∧ StX [] w0 w [blk b4 [.int .i64 t.polders, .slice a1 t.chans.length cap1, .slice a2 t.towns.length cap2, .slice a3 t.floods.length cap3] 26] ∧ (d ≤ (wetL t).length + 1) ∧ ((plcP t now i d).findSome? (refF t now i r2 l) = none) ∧ zz = (wetL t).length + 1 - d) _ ⟨_, rfl, 0, rfl, rfl, rfl, rfl, rfl, (rfl.trans (congrArg (Value.int .i64) (by simp))), hS, (Nat.zero_le _), (rfl), rfl⟩ ?_
    clear hS
    rintro f w _ ⟨d, h1, h2, h3, h4, h10, h11, hS, hd, hN, rfl⟩
    refine seq ?_
    refine seq ?_
    refine region ?_
    refine sv (yMove h11) ?_
    refine sv (yMove h1) ?_
    refine sv (yMove h2) ?_
    refine sv (yLen rfl Tryz.underlying34) ?_
    refine sv (yAdd rfl rfl ⟨by omega, by omega⟩) ?_
    refine sv (yLeq rfl rfl) ?_
    refine nil ?_
    show Code.wp _ _ _ _ _
    refine cond rfl (fun c33 => ?_) (fun c33 => ?_)
    ·
      simp only [Bool.and_eq_true, Bool.or_eq_true, Bool.and_eq_false_iff, Bool.or_eq_false_iff, decide_eq_true_eq, decide_eq_false_iff_not, Bool.not_eq_true, Bool.not_eq_false, Bool.not_not, Bool.not_eq_eq_eq_not, Bool.not_true, Bool.not_false, Bool.false_eq_true, Bool.true_eq_false, ne_eq, Decidable.not_not, not_false_eq_true, not_true_eq_false] at c33
      refine skip ?_
      show Code.wp _ _ _ _ _
      refine seq ?_
      refine block ?_
      refine seq ?_
      refine region ?_
      refine sv (yAsg rfl) ?_
      refine nil ?_
      show Code.wp _ _ _ _ _
      refine block ?_
      refine loop (fun f w zz => ∃ (k : Nat), f 1 = .int .i64 now ∧ f 2 = .slice aw (wetL t).length cw ∧ f 3 = .slice al l.length cl ∧ f 4 = .pointer (some ⟨b4, 0, none⟩) ∧ f 10 = .int .i64 i ∧ f 11 = .int .i64 (now + (d : Int)) ∧ f 12 = .int .i64 (k : Int) ∧ StX [] w0 w [blk b4 [.int .i64 t.polders, .slice a1 t.chans.length cap1, .slice a2 t.towns.length cap2, .slice a3 t.floods.length cap3] 26] ∧ (k ≤ (twn t i).chans.length) ∧ (((plT t now).at i (now + (d : Int)) ((twn t i).chans.take k)).findSome? (refF t now i r2 l) = none) ∧ zz = (twn t i).chans.length - k) _ ⟨_, rfl, 0, h1, h2, h3, h4, h10, h11, rfl, hS, (Nat.zero_le _), (rfl), rfl⟩ ?_
      clear hS
      rintro f w _ ⟨k, h1, h2, h3, h4, h10, h11, h12, hS, hk, hM, rfl⟩
      refine seq ?_
      refine seq ?_
      refine region ?_
      refine sv (yMove h12) ?_
      refine sv (fa26_2 h4) ?_
      refine sv (yLdB rfl Tryz.isAgg23 (hS.at _) rfl) ?_
      refine sv (yMove h10) ?_
      refine sv (yIxa rfl hat rfl Tryz.runUnderlying23 Tryz.sizeOf36 (by omega) (by omega)) ?_
      refine sv (fa36_4 rfl) ?_
      refine sv (yLd rfl Tryz.isAgg34 ((hcst.ext hS.ext).at (j := 4) rfl)) ?_
      refine sv (yLen rfl Tryz.underlying34) ?_
      refine sv (yLss rfl rfl) ?_
      refine nil ?_
      show Code.wp _ _ _ _ _
      refine cond rfl (fun c44 => ?_) (fun c44 => ?_)
      ·
        simp only [Bool.and_eq_true, Bool.or_eq_true, Bool.and_eq_false_iff, Bool.or_eq_false_iff, decide_eq_true_eq, decide_eq_false_iff_not, Bool.not_eq_true, Bool.not_eq_false, Bool.not_not, Bool.not_eq_eq_eq_not, Bool.not_true, Bool.not_false, Bool.false_eq_true, Bool.true_eq_false, ne_eq, Decidable.not_not, not_false_eq_true, not_true_eq_false] at c44
        obtain ⟨c, hcx, -⟩ := drop_of (l := (twn t i).chans) (k := k) (by omega)
        obtain ⟨bk, oq, csk, hak, hlk, hcsk, hRk, -⟩ := sl_at hslt hcx
        obtain ⟨rfl, -⟩ := hRk
        have hcb := chan_mem hok (List.mem_of_getElem? hcx)
        obtain ⟨bc, oc, csc, hac, hlc, hcsc, hRc, -⟩ := sl_at hsh (chn_i (t := t) hcb)
        obtain ⟨rfl, -⟩ := hRc
        have hco := chan_ok hok hcb
        refine skip ?_
        show Code.wp _ _ _ _ _
        refine seq ?_
        refine block ?_
        refine seq ?_
        refine region ?_
        refine sv (fa26_2 h4) ?_
        refine sv (yLdB rfl Tryz.isAgg23 (hS.at _) rfl) ?_
        refine sv (yMove h10) ?_
        refine sv (yIxa rfl hat rfl Tryz.runUnderlying23 Tryz.sizeOf36 (by omega) (by omega)) ?_
        refine sv (fa36_4 rfl) ?_
        refine sv (yLd rfl Tryz.isAgg34 ((hcst.ext hS.ext).at (j := 4) rfl)) ?_
        refine sv (yMove h12) ?_
        refine sv (yIxa rfl hak rfl Tryz.runUnderlying34 Tryz.sizeOf3 (by omega) (by omega)) ?_
        refine sv (yLd rfl Tryz.isAgg3 ((hcsk.ext hS.ext).one)) ?_
        refine sv (yAsg rfl) ?_
        refine nil ?_
        show Code.wp _ _ _ _ _
        refine seq ?_
        refine seq ?_
        refine region_draw mixed (by kernel_rfl) hS ?_
        refine qv (fun w hS => (yMove h11)) ?_
        refine qv (fun w hS => (yLdBA h4 Tryz.isAgg26 Tryz.sizeOf26 (hS.at _) rfl rfl)) ?_
        refine qv (fun w hS => (yMove h10)) ?_
        refine qv (fun w hS => (yMove rfl)) ?_
        refine qcall Tryz.call121 (.cons rfl (.cons rfl (.cons rfl .nil))) (fun w hS => (c_rlatest (h.ext hS.ext) hok hiB hcb)) ?_
        refine qv (fun w hS => (yGtr rfl rfl)) ?_
        refine qv (fun w hS => (yMove rfl)) ?_
        refine qg rfl rfl rfl (fun g w hS => (yMove h3)) (fun v63 g63 => ?_)
        refine qg rfl rfl rfl (fun g w hS => (yMove rfl)) (fun v64 g64 => ?_)
        refine qg rfl rfl rfl (fun g w hS => (yMove h11)) (fun v65 g65 => ?_)
        refine qgc rfl rfl rfl Tryz.call122 (fun g => (.cons (g63.1 g) (.cons (g64.1 g) (.cons (g65.1 g) .nil)))) (fun g w hS => (c_rused (hl.ext RSlot.stays hS.ext) (by omega))) (fun v66 g66 => ?_)
        refine qg rfl rfl rfl (fun g w hS => (fa26_1 h4)) (fun v67 g67 => ?_)
        refine qg rfl rfl rfl (fun g w hS => (yLdB (g67.1 g) Tryz.isAgg22 (hS.at _) rfl)) (fun v68 g68 => ?_)
        refine qg rfl rfl rfl (fun g w hS => (yMove rfl)) (fun v69 g69 => ?_)
        refine qg rfl rfl rfl (fun g w hS => (yIxa (g68.1 g) hac (g69.1 g) Tryz.runUnderlying22 Tryz.sizeOf41 (by omega) (by omega))) (fun v70 g70 => ?_)
        refine qg rfl rfl rfl (fun g w hS => (fa41_2 (g70.1 g))) (fun v71 g71 => ?_)
        refine qg rfl rfl rfl (fun g w hS => (yLd (g71.1 g) Tryz.isAgg3 ((hcsc.ext hS.ext).at (j := 2) rfl))) (fun v72 g72 => ?_)
        refine qg rfl rfl rfl (fun g w hS => (yGeq (g66.1 g) (g72.1 g))) (fun v73 g73 => ?_)
        refine qv (fun w hS => (yOr rfl rfl (fun hB => (g73.1 hB)))) ?_
        clear hS; refine qnil (fun w hS => ?_)
        show Code.wp _ _ _ _ _
        refine cond rfl (fun c74 => ?_) (fun c74 => ?_)
        ·
          refine exit ?_
          show Code.wp _ _ _ _ _
          refine region ?_
          refine sv (yMove h12) ?_
          refine sv (yAdd rfl rfl ⟨by omega, by omega⟩) ?_
          refine sv (yAsg rfl) ?_
          refine nil ?_
          exact ⟨_, _, rfl, ⟨k + 1, h1, h2, h3, h4, h10, h11, rfl, hS, (by omega), (ref_skip hcx hM c74), rfl⟩, by omega⟩
        ·
          obtain ⟨hgo, hgF⟩ := ref_go (r := r2) (l := l) c74
          have hla : latestF t i c ≤ 200000 := Int.min_le_left _ _
          refine skip ?_
          show Code.wp _ _ _ _ _
          refine seq ?_
          refine region_mix (fun w => StX [] w0 w [blk b4 [.int .i64 t.polders, .slice a1 t.chans.length cap1, .slice a2 t.towns.length cap2, .slice a3 t.floods.length cap3] 26]) 18 mixed hS ?_
          clear hS; intro w hS
          refine f_step 0 (by kernel_rfl) rfl (fun c a a' w h => by obtain ⟨_, v, hv, _⟩ := h; cases hv) (by first | exact hS | exact hS.sub (.cons _ (List.Sublist.refl _)) | exact hS.sub (.cons _ (.cons _ (List.Sublist.refl _))) | exact hS.sub (.cons _ (.cons _ (.cons _ (List.Sublist.refl _))))) (fun w hS => (yLdBA h4 Tryz.isAgg26 Tryz.sizeOf26 (hS.at _) rfl rfl)) ?_
          refine f_step 1 (by kernel_rfl) rfl (fun c a a' w h => by obtain ⟨_, v, hv, _⟩ := h; cases hv) (by first | exact hS | exact hS.sub (.cons _ (List.Sublist.refl _)) | exact hS.sub (.cons _ (.cons _ (List.Sublist.refl _))) | exact hS.sub (.cons _ (.cons _ (.cons _ (List.Sublist.refl _))))) (fun w hS => (yMove h1)) ?_
          refine f_step 2 (by kernel_rfl) rfl (fun c a a' w h => by obtain ⟨_, v, hv, _⟩ := h; cases hv) (by first | exact hS | exact hS.sub (.cons _ (List.Sublist.refl _)) | exact hS.sub (.cons _ (.cons _ (List.Sublist.refl _))) | exact hS.sub (.cons _ (.cons _ (.cons _ (List.Sublist.refl _))))) (fun w hS => (yMove h2)) ?_
          refine f_step 4 (by kernel_rfl) rfl (fun c a a' w h => by obtain ⟨_, v, hv, _⟩ := h; cases hv) (by first | exact hS | exact hS.sub (.cons _ (List.Sublist.refl _)) | exact hS.sub (.cons _ (.cons _ (List.Sublist.refl _))) | exact hS.sub (.cons _ (.cons _ (.cons _ (List.Sublist.refl _))))) (fun w hS => (yMove h3)) ?_
          refine f_step 6 (by kernel_rfl) rfl (fun c a a' w h => by obtain ⟨_, v, hv, _⟩ := h; cases hv) (by first | exact hS | exact hS.sub (.cons _ (List.Sublist.refl _)) | exact hS.sub (.cons _ (.cons _ (List.Sublist.refl _))) | exact hS.sub (.cons _ (.cons _ (.cons _ (List.Sublist.refl _))))) (fun w hS => (yMove h10)) ?_
          refine f_step 7 (by kernel_rfl) rfl (fun c a a' w h => by obtain ⟨_, v, hv, _⟩ := h; cases hv) (by first | exact hS | exact hS.sub (.cons _ (List.Sublist.refl _)) | exact hS.sub (.cons _ (.cons _ (List.Sublist.refl _))) | exact hS.sub (.cons _ (.cons _ (.cons _ (List.Sublist.refl _))))) (fun w hS => (yMove rfl)) ?_
          refine f_step 8 (by kernel_rfl) rfl (fun c a a' w h => by obtain ⟨_, v, hv, _⟩ := h; cases hv) (by first | exact hS | exact hS.sub (.cons _ (List.Sublist.refl _)) | exact hS.sub (.cons _ (.cons _ (List.Sublist.refl _))) | exact hS.sub (.cons _ (.cons _ (.cons _ (List.Sublist.refl _))))) (fun w hS => (yMove h11)) ?_
          refine f_step 9 (by kernel_rfl) rfl (fun c a a' w h => by obtain ⟨_, v, hv, _⟩ := h; cases hv) (by first | exact hS | exact hS.sub (.cons _ (List.Sublist.refl _)) | exact hS.sub (.cons _ (.cons _ (List.Sublist.refl _))) | exact hS.sub (.cons _ (.cons _ (.cons _ (List.Sublist.refl _))))) (fun w hS => (yBuild Tryz.zeroValue38 rfl pl38 (.cons rfl rfl (.cons rfl rfl (.cons rfl rfl .nil))) rfl)) ?_
          show wpA _ _ _ _ _ _ _ _ _ _
          refine a_step (i := 3) (is := [10]) (by kernel_rfl) ⟨?_, ?_, trivial⟩
          ·
            refine ⟨_, rfl, ?_⟩
            refine sbslice0 hS Tryz.underlying27 Tryz.sizeOf38 ?_; clear hS; intro b79 w hS
            refine nil ?_
            refine ⟨fun _ => (by first | exact hS | exact hS.sub (.cons _ (List.Sublist.refl _)) | exact hS.sub (.cons _ (.cons _ (List.Sublist.refl _))) | exact hS.sub (.cons _ (.cons _ (.cons _ (List.Sublist.refl _))))), ?_⟩
            show wpA _ _ _ _ _ _ _ _ _ _
            show wpA _ _ _ _ _ _ _ _ _ _
            refine a_step (i := 5) (is := [10]) (by kernel_rfl) ⟨?_, ?_, trivial⟩
            ·
              refine ⟨_, rfl, ?_⟩
              refine sappS (bytes := 24) (size := 3) hS rfl rfl Tryz.underlying27 ti38 rfl rfl rfl rfl (by decide) Tryz.sizeOf38 (fun hh => by obtain ⟨bd, od, e1, e2⟩ := encs_news (enc := slotC) (fun _ _ _ h => h.1) hl hh; exact ⟨bd, od, e1, e2.ext hS.ext⟩) (by rw [flat_len slotC_len]) (slots_one l) (by omega) (by omega) ?_; clear hS; intro v81 w hS; rw [Nat.zero_add l.length, List.nil_append] at hS
              obtain ⟨a81, c81, rfl⟩ := row_shape (hS.row v81)
              refine nil ?_
              refine ⟨fun _ => (by first | exact hS | exact hS.sub (.cons _ (List.Sublist.refl _)) | exact hS.sub (.cons _ (.cons _ (List.Sublist.refl _))) | exact hS.sub (.cons _ (.cons _ (.cons _ (List.Sublist.refl _))))), ?_⟩
              show wpA _ _ _ _ _ _ _ _ _ _
              show wpA _ _ _ _ _ _ _ _ _ _
              refine a_step (i := 10) (is := []) (by kernel_rfl) ⟨?_, trivial⟩
              refine ⟨_, rfl, ?_⟩
              refine sbslice hS Tryz.underlying27 Tryz.sizeOf38 rfl Tryz.zeroValue38 rfl (.cons rfl rfl .nil) rfl ?_; clear hS; intro b86 w hS
              refine nil ?_
              refine ⟨fun _ => (by first | exact hS | exact hS.sub (.cons _ (List.Sublist.refl _)) | exact hS.sub (.cons _ (.cons _ (List.Sublist.refl _))) | exact hS.sub (.cons _ (.cons _ (.cons _ (List.Sublist.refl _))))), ?_⟩
              show wpA _ _ _ _ _ _ _ _ _ _
              show wpA _ _ _ _ _ _ _ _ _ _
              refine a_step (i := 11) (is := []) (by kernel_rfl) ⟨?_, trivial⟩
              refine ⟨_, rfl, ?_⟩
              refine sapp (bytes := 24) (size := 3) (v := (.slice a81 l.length c81)) (m := 1) hS rfl rfl Tryz.underlying27 ti38 rfl rfl rfl rfl (by decide) (blk_cells (hS.at _)) rfl rfl (by omega) (by omega) ?_; clear hS; intro v87 w hS
              refine nil ?_
              refine ⟨fun _ => (by first | exact hS | exact hS.sub (.cons _ (List.Sublist.refl _)) | exact hS.sub (.cons _ (.cons _ (List.Sublist.refl _))) | exact hS.sub (.cons _ (.cons _ (.cons _ (List.Sublist.refl _))))), ?_⟩
              show wpA _ _ _ _ _ _ _ _ _ _
              show wpA _ _ _ _ _ _ _ _ _ _
              refine a_step (i := 12) (is := []) (by kernel_rfl) ⟨?_, trivial⟩
              refine ⟨_, rfl, ?_⟩
              obtain ⟨a87, c87, rfl⟩ := row_shape (hS.row v87)
              refine scall Tryz.call91 (.cons rfl (.cons rfl (.cons rfl (.cons rfl .nil)))) (ih i r2 rfl (l ++ [⟨i, c, now + (d : Int)⟩]) _ _ (h.ext hS.ext) (hwv.ext RInt.stays hS.ext) (sl_slots (l := l ++ [⟨i, c, now + (d : Int)⟩]) (n := l.length + 1) (by rw [List.flatMap_append]; exact hS.row (.slice a87 (l.length + 1) c87)) (by simp) (fun s hs => by rcases List.mem_append.1 hs with hs | hs; exact sl_all hl (p := SlotI) (fun _ _ hh => hh.2) s hs; rw [List.mem_singleton.1 hs]; exact ⟨⟨by show -9223372036854775808 ≤ i; omega, by show i ≤ 9223372036854775807; omega⟩, ⟨by show -9223372036854775808 ≤ c; omega, by show c ≤ 9223372036854775807; omega⟩, ⟨by show -9223372036854775808 ≤ now + (d : Int); omega, by show now + (d : Int) ≤ 9223372036854775807; omega⟩⟩)) (by rw [List.length_append]; exact hr2.symm) (by simp; omega)) ?_
              rintro _ w ⟨vv, rfl, hK, hE⟩; replace hS := hS.step hE; clear hE
              refine nil ?_
              refine ⟨fun _ => (by first | exact hS | exact hS.sub (.cons _ (List.Sublist.refl _)) | exact hS.sub (.cons _ (.cons _ (List.Sublist.refl _))) | exact hS.sub (.cons _ (.cons _ (.cons _ (List.Sublist.refl _))))), ?_⟩
              show wpA _ _ _ _ _ _ _ _ _ _
              refine f_step 13 (by kernel_rfl) rfl (fun c a a' w h => by obtain ⟨_, v, hv, _⟩ := h; cases hv) (by first | exact hS | exact hS.sub (.cons _ (List.Sublist.refl _)) | exact hS.sub (.cons _ (.cons _ (List.Sublist.refl _))) | exact hS.sub (.cons _ (.cons _ (.cons _ (List.Sublist.refl _))))) (fun w hS => (yMove rfl)) ?_
              refine f_step 14 (by kernel_rfl) rfl (fun c a a' w h => by obtain ⟨_, v, hv, _⟩ := h; cases hv) (by first | exact hS | exact hS.sub (.cons _ (List.Sublist.refl _)) | exact hS.sub (.cons _ (.cons _ (List.Sublist.refl _))) | exact hS.sub (.cons _ (.cons _ (.cons _ (List.Sublist.refl _))))) (fun w hS => (yExt rfl rfl)) ?_
              refine f_step 15 (by kernel_rfl) rfl (fun c a a' w h => by obtain ⟨_, v, hv, _⟩ := h; cases hv) (by first | exact hS | exact hS.sub (.cons _ (List.Sublist.refl _)) | exact hS.sub (.cons _ (.cons _ (List.Sublist.refl _))) | exact hS.sub (.cons _ (.cons _ (.cons _ (List.Sublist.refl _))))) (fun w hS => (yExt rfl rfl)) ?_
              refine f_step 16 (by kernel_rfl) rfl (fun c a a' w h => by obtain ⟨_, v, hv, _⟩ := h; cases hv) (by first | exact hS | exact hS.sub (.cons _ (List.Sublist.refl _)) | exact hS.sub (.cons _ (.cons _ (List.Sublist.refl _))) | exact hS.sub (.cons _ (.cons _ (.cons _ (List.Sublist.refl _))))) (fun w hS => (yAsg rfl)) ?_
              refine f_step 17 (by kernel_rfl) rfl (fun c a a' w h => by obtain ⟨_, v, hv, _⟩ := h; cases hv) (by first | exact hS | exact hS.sub (.cons _ (List.Sublist.refl _)) | exact hS.sub (.cons _ (.cons _ (List.Sublist.refl _))) | exact hS.sub (.cons _ (.cons _ (.cons _ (List.Sublist.refl _))))) (fun w hS => (yAsg rfl)) ?_
              refine a_end (by kernel_rfl) ?_
              show Code.wp _ _ _ _ _
              refine seq ?_
              refine region ?_
              refine sv (yMove rfl) ?_
              refine nil ?_
              show Code.wp _ _ _ _ _
              refine cond rfl (fun c91 => ?_) (fun c91 => ?_)
              ·
                refine seq ?_
                refine region ?_
                refine sv (yMove rfl) ?_
                refine sv (yAsg rfl) ?_
                refine sv (yAsg rfl) ?_
                refine nil ?_
                show Code.wp _ _ _ _ _
                refine wp_ret (blockR (thenR (thenR (blockR (blockR (thenR (thenR (blockR (thenR ?_)))))))))
                refine retQ (res2 rfl rfl rfl) ?_
                obtain ⟨L2, hL2⟩ := Option.isSome_iff_exists.1 c91
                have hfin := ref_hit (by omega) hcx hgo hN hM (hgF.trans hL2)
                rw [hL2] at hK
                rw [hfin]
                exact ⟨_, rfl, hK, hS.ext⟩
              ·
                refine skip ?_
                show Code.wp _ _ _ _ _
                refine region ?_
                refine sv (yMove h12) ?_
                refine sv (yAdd rfl rfl ⟨by omega, by omega⟩) ?_
                refine sv (yAsg rfl) ?_
                refine nil ?_
                exact ⟨_, _, rfl, ⟨k + 1, h1, h2, h3, h4, h10, h11, rfl, (hS.sub (.cons _ (.cons _ (List.Sublist.refl _)))), (by omega), (ref_stay hcx hM c91), rfl⟩, by omega⟩
            ·
              refine ⟨_, rfl, ?_⟩
              refine sbslice hS Tryz.underlying27 Tryz.sizeOf38 rfl Tryz.zeroValue38 rfl (.cons rfl rfl .nil) rfl ?_; clear hS; intro b86 w hS
              refine nil ?_
              refine ⟨fun _ => (by first | exact hS | exact hS.sub (.cons _ (List.Sublist.refl _)) | exact hS.sub (.cons _ (.cons _ (List.Sublist.refl _))) | exact hS.sub (.cons _ (.cons _ (.cons _ (List.Sublist.refl _))))), ?_⟩
              show wpA _ _ _ _ _ _ _ _ _ _
              show wpA _ _ _ _ _ _ _ _ _ _
              refine a_step (i := 5) (is := []) (by kernel_rfl) ⟨?_, trivial⟩
              refine ⟨_, rfl, ?_⟩
              refine sappS (bytes := 24) (size := 3) hS rfl rfl Tryz.underlying27 ti38 rfl rfl rfl rfl (by decide) Tryz.sizeOf38 (fun hh => by obtain ⟨bd, od, e1, e2⟩ := encs_news (enc := slotC) (fun _ _ _ h => h.1) hl hh; exact ⟨bd, od, e1, e2.ext hS.ext⟩) (by rw [flat_len slotC_len]) (slots_one l) (by omega) (by omega) ?_; clear hS; intro v81 w hS; rw [Nat.zero_add l.length, List.nil_append] at hS
              obtain ⟨a81, c81, rfl⟩ := row_shape (hS.row v81)
              refine nil ?_
              refine ⟨fun _ => (by first | exact hS | exact hS.sub (.cons _ (List.Sublist.refl _)) | exact hS.sub (.cons _ (.cons _ (List.Sublist.refl _))) | exact hS.sub (.cons _ (.cons _ (.cons _ (List.Sublist.refl _))))), ?_⟩
              show wpA _ _ _ _ _ _ _ _ _ _
              show wpA _ _ _ _ _ _ _ _ _ _
              refine a_step (i := 11) (is := []) (by kernel_rfl) ⟨?_, trivial⟩
              refine ⟨_, rfl, ?_⟩
              refine sapp (bytes := 24) (size := 3) (v := (.slice a81 l.length c81)) (m := 1) hS rfl rfl Tryz.underlying27 ti38 rfl rfl rfl rfl (by decide) (blk_cells (hS.at _)) rfl rfl (by omega) (by omega) ?_; clear hS; intro v87 w hS
              refine nil ?_
              refine ⟨fun _ => (by first | exact hS | exact hS.sub (.cons _ (List.Sublist.refl _)) | exact hS.sub (.cons _ (.cons _ (List.Sublist.refl _))) | exact hS.sub (.cons _ (.cons _ (.cons _ (List.Sublist.refl _))))), ?_⟩
              show wpA _ _ _ _ _ _ _ _ _ _
              show wpA _ _ _ _ _ _ _ _ _ _
              refine a_step (i := 12) (is := []) (by kernel_rfl) ⟨?_, trivial⟩
              refine ⟨_, rfl, ?_⟩
              obtain ⟨a87, c87, rfl⟩ := row_shape (hS.row v87)
              refine scall Tryz.call91 (.cons rfl (.cons rfl (.cons rfl (.cons rfl .nil)))) (ih i r2 rfl (l ++ [⟨i, c, now + (d : Int)⟩]) _ _ (h.ext hS.ext) (hwv.ext RInt.stays hS.ext) (sl_slots (l := l ++ [⟨i, c, now + (d : Int)⟩]) (n := l.length + 1) (by rw [List.flatMap_append]; exact hS.row (.slice a87 (l.length + 1) c87)) (by simp) (fun s hs => by rcases List.mem_append.1 hs with hs | hs; exact sl_all hl (p := SlotI) (fun _ _ hh => hh.2) s hs; rw [List.mem_singleton.1 hs]; exact ⟨⟨by show -9223372036854775808 ≤ i; omega, by show i ≤ 9223372036854775807; omega⟩, ⟨by show -9223372036854775808 ≤ c; omega, by show c ≤ 9223372036854775807; omega⟩, ⟨by show -9223372036854775808 ≤ now + (d : Int); omega, by show now + (d : Int) ≤ 9223372036854775807; omega⟩⟩)) (by rw [List.length_append]; exact hr2.symm) (by simp; omega)) ?_
              rintro _ w ⟨vv, rfl, hK, hE⟩; replace hS := hS.step hE; clear hE
              refine nil ?_
              refine ⟨fun _ => (by first | exact hS | exact hS.sub (.cons _ (List.Sublist.refl _)) | exact hS.sub (.cons _ (.cons _ (List.Sublist.refl _))) | exact hS.sub (.cons _ (.cons _ (.cons _ (List.Sublist.refl _))))), ?_⟩
              show wpA _ _ _ _ _ _ _ _ _ _
              refine f_step 13 (by kernel_rfl) rfl (fun c a a' w h => by obtain ⟨_, v, hv, _⟩ := h; cases hv) (by first | exact hS | exact hS.sub (.cons _ (List.Sublist.refl _)) | exact hS.sub (.cons _ (.cons _ (List.Sublist.refl _))) | exact hS.sub (.cons _ (.cons _ (.cons _ (List.Sublist.refl _))))) (fun w hS => (yMove rfl)) ?_
              refine f_step 14 (by kernel_rfl) rfl (fun c a a' w h => by obtain ⟨_, v, hv, _⟩ := h; cases hv) (by first | exact hS | exact hS.sub (.cons _ (List.Sublist.refl _)) | exact hS.sub (.cons _ (.cons _ (List.Sublist.refl _))) | exact hS.sub (.cons _ (.cons _ (.cons _ (List.Sublist.refl _))))) (fun w hS => (yExt rfl rfl)) ?_
              refine f_step 15 (by kernel_rfl) rfl (fun c a a' w h => by obtain ⟨_, v, hv, _⟩ := h; cases hv) (by first | exact hS | exact hS.sub (.cons _ (List.Sublist.refl _)) | exact hS.sub (.cons _ (.cons _ (List.Sublist.refl _))) | exact hS.sub (.cons _ (.cons _ (.cons _ (List.Sublist.refl _))))) (fun w hS => (yExt rfl rfl)) ?_
              refine f_step 16 (by kernel_rfl) rfl (fun c a a' w h => by obtain ⟨_, v, hv, _⟩ := h; cases hv) (by first | exact hS | exact hS.sub (.cons _ (List.Sublist.refl _)) | exact hS.sub (.cons _ (.cons _ (List.Sublist.refl _))) | exact hS.sub (.cons _ (.cons _ (.cons _ (List.Sublist.refl _))))) (fun w hS => (yAsg rfl)) ?_
              refine f_step 17 (by kernel_rfl) rfl (fun c a a' w h => by obtain ⟨_, v, hv, _⟩ := h; cases hv) (by first | exact hS | exact hS.sub (.cons _ (List.Sublist.refl _)) | exact hS.sub (.cons _ (.cons _ (List.Sublist.refl _))) | exact hS.sub (.cons _ (.cons _ (.cons _ (List.Sublist.refl _))))) (fun w hS => (yAsg rfl)) ?_
              refine a_end (by kernel_rfl) ?_
              show Code.wp _ _ _ _ _
              refine seq ?_
              refine region ?_
              refine sv (yMove rfl) ?_
              refine nil ?_
              show Code.wp _ _ _ _ _
              refine cond rfl (fun c91 => ?_) (fun c91 => ?_)
              ·
                refine seq ?_
                refine region ?_
                refine sv (yMove rfl) ?_
                refine sv (yAsg rfl) ?_
                refine sv (yAsg rfl) ?_
                refine nil ?_
                show Code.wp _ _ _ _ _
                refine wp_ret (blockR (thenR (thenR (blockR (blockR (thenR (thenR (blockR (thenR ?_)))))))))
                refine retQ (res2 rfl rfl rfl) ?_
                obtain ⟨L2, hL2⟩ := Option.isSome_iff_exists.1 c91
                have hfin := ref_hit (by omega) hcx hgo hN hM (hgF.trans hL2)
                rw [hL2] at hK
                rw [hfin]
                exact ⟨_, rfl, hK, hS.ext⟩
              ·
                refine skip ?_
                show Code.wp _ _ _ _ _
                refine region ?_
                refine sv (yMove h12) ?_
                refine sv (yAdd rfl rfl ⟨by omega, by omega⟩) ?_
                refine sv (yAsg rfl) ?_
                refine nil ?_
                exact ⟨_, _, rfl, ⟨k + 1, h1, h2, h3, h4, h10, h11, rfl, (hS.sub (.cons _ (.cons _ (List.Sublist.refl _)))), (by omega), (ref_stay hcx hM c91), rfl⟩, by omega⟩
          ·
            refine ⟨_, rfl, ?_⟩
            refine sbslice hS Tryz.underlying27 Tryz.sizeOf38 rfl Tryz.zeroValue38 rfl (.cons rfl rfl .nil) rfl ?_; clear hS; intro b86 w hS
            refine nil ?_
            refine ⟨fun _ => (by first | exact hS | exact hS.sub (.cons _ (List.Sublist.refl _)) | exact hS.sub (.cons _ (.cons _ (List.Sublist.refl _))) | exact hS.sub (.cons _ (.cons _ (.cons _ (List.Sublist.refl _))))), ?_⟩
            show wpA _ _ _ _ _ _ _ _ _ _
            show wpA _ _ _ _ _ _ _ _ _ _
            refine a_step (i := 3) (is := []) (by kernel_rfl) ⟨?_, trivial⟩
            refine ⟨_, rfl, ?_⟩
            refine sbslice0 hS Tryz.underlying27 Tryz.sizeOf38 ?_; clear hS; intro b79 w hS
            refine nil ?_
            refine ⟨fun _ => (by first | exact hS | exact hS.sub (.cons _ (List.Sublist.refl _)) | exact hS.sub (.cons _ (.cons _ (List.Sublist.refl _))) | exact hS.sub (.cons _ (.cons _ (.cons _ (List.Sublist.refl _))))), ?_⟩
            show wpA _ _ _ _ _ _ _ _ _ _
            show wpA _ _ _ _ _ _ _ _ _ _
            refine a_step (i := 5) (is := []) (by kernel_rfl) ⟨?_, trivial⟩
            refine ⟨_, rfl, ?_⟩
            refine sappS (bytes := 24) (size := 3) hS rfl rfl Tryz.underlying27 ti38 rfl rfl rfl rfl (by decide) Tryz.sizeOf38 (fun hh => by obtain ⟨bd, od, e1, e2⟩ := encs_news (enc := slotC) (fun _ _ _ h => h.1) hl hh; exact ⟨bd, od, e1, e2.ext hS.ext⟩) (by rw [flat_len slotC_len]) (slots_one l) (by omega) (by omega) ?_; clear hS; intro v81 w hS; rw [Nat.zero_add l.length, List.nil_append] at hS
            obtain ⟨a81, c81, rfl⟩ := row_shape (hS.row v81)
            refine nil ?_
            refine ⟨fun _ => (by first | exact hS | exact hS.sub (.cons _ (List.Sublist.refl _)) | exact hS.sub (.cons _ (.cons _ (List.Sublist.refl _))) | exact hS.sub (.cons _ (.cons _ (.cons _ (List.Sublist.refl _))))), ?_⟩
            show wpA _ _ _ _ _ _ _ _ _ _
            show wpA _ _ _ _ _ _ _ _ _ _
            refine a_step (i := 11) (is := []) (by kernel_rfl) ⟨?_, trivial⟩
            refine ⟨_, rfl, ?_⟩
            refine sapp (bytes := 24) (size := 3) (v := (.slice a81 l.length c81)) (m := 1) hS rfl rfl Tryz.underlying27 ti38 rfl rfl rfl rfl (by decide) (blk_cells (hS.at _)) rfl rfl (by omega) (by omega) ?_; clear hS; intro v87 w hS
            refine nil ?_
            refine ⟨fun _ => (by first | exact hS | exact hS.sub (.cons _ (List.Sublist.refl _)) | exact hS.sub (.cons _ (.cons _ (List.Sublist.refl _))) | exact hS.sub (.cons _ (.cons _ (.cons _ (List.Sublist.refl _))))), ?_⟩
            show wpA _ _ _ _ _ _ _ _ _ _
            show wpA _ _ _ _ _ _ _ _ _ _
            refine a_step (i := 12) (is := []) (by kernel_rfl) ⟨?_, trivial⟩
            refine ⟨_, rfl, ?_⟩
            obtain ⟨a87, c87, rfl⟩ := row_shape (hS.row v87)
            refine scall Tryz.call91 (.cons rfl (.cons rfl (.cons rfl (.cons rfl .nil)))) (ih i r2 rfl (l ++ [⟨i, c, now + (d : Int)⟩]) _ _ (h.ext hS.ext) (hwv.ext RInt.stays hS.ext) (sl_slots (l := l ++ [⟨i, c, now + (d : Int)⟩]) (n := l.length + 1) (by rw [List.flatMap_append]; exact hS.row (.slice a87 (l.length + 1) c87)) (by simp) (fun s hs => by rcases List.mem_append.1 hs with hs | hs; exact sl_all hl (p := SlotI) (fun _ _ hh => hh.2) s hs; rw [List.mem_singleton.1 hs]; exact ⟨⟨by show -9223372036854775808 ≤ i; omega, by show i ≤ 9223372036854775807; omega⟩, ⟨by show -9223372036854775808 ≤ c; omega, by show c ≤ 9223372036854775807; omega⟩, ⟨by show -9223372036854775808 ≤ now + (d : Int); omega, by show now + (d : Int) ≤ 9223372036854775807; omega⟩⟩)) (by rw [List.length_append]; exact hr2.symm) (by simp; omega)) ?_
            rintro _ w ⟨vv, rfl, hK, hE⟩; replace hS := hS.step hE; clear hE
            refine nil ?_
            refine ⟨fun _ => (by first | exact hS | exact hS.sub (.cons _ (List.Sublist.refl _)) | exact hS.sub (.cons _ (.cons _ (List.Sublist.refl _))) | exact hS.sub (.cons _ (.cons _ (.cons _ (List.Sublist.refl _))))), ?_⟩
            show wpA _ _ _ _ _ _ _ _ _ _
            refine f_step 13 (by kernel_rfl) rfl (fun c a a' w h => by obtain ⟨_, v, hv, _⟩ := h; cases hv) (by first | exact hS | exact hS.sub (.cons _ (List.Sublist.refl _)) | exact hS.sub (.cons _ (.cons _ (List.Sublist.refl _))) | exact hS.sub (.cons _ (.cons _ (.cons _ (List.Sublist.refl _))))) (fun w hS => (yMove rfl)) ?_
            refine f_step 14 (by kernel_rfl) rfl (fun c a a' w h => by obtain ⟨_, v, hv, _⟩ := h; cases hv) (by first | exact hS | exact hS.sub (.cons _ (List.Sublist.refl _)) | exact hS.sub (.cons _ (.cons _ (List.Sublist.refl _))) | exact hS.sub (.cons _ (.cons _ (.cons _ (List.Sublist.refl _))))) (fun w hS => (yExt rfl rfl)) ?_
            refine f_step 15 (by kernel_rfl) rfl (fun c a a' w h => by obtain ⟨_, v, hv, _⟩ := h; cases hv) (by first | exact hS | exact hS.sub (.cons _ (List.Sublist.refl _)) | exact hS.sub (.cons _ (.cons _ (List.Sublist.refl _))) | exact hS.sub (.cons _ (.cons _ (.cons _ (List.Sublist.refl _))))) (fun w hS => (yExt rfl rfl)) ?_
            refine f_step 16 (by kernel_rfl) rfl (fun c a a' w h => by obtain ⟨_, v, hv, _⟩ := h; cases hv) (by first | exact hS | exact hS.sub (.cons _ (List.Sublist.refl _)) | exact hS.sub (.cons _ (.cons _ (List.Sublist.refl _))) | exact hS.sub (.cons _ (.cons _ (.cons _ (List.Sublist.refl _))))) (fun w hS => (yAsg rfl)) ?_
            refine f_step 17 (by kernel_rfl) rfl (fun c a a' w h => by obtain ⟨_, v, hv, _⟩ := h; cases hv) (by first | exact hS | exact hS.sub (.cons _ (List.Sublist.refl _)) | exact hS.sub (.cons _ (.cons _ (List.Sublist.refl _))) | exact hS.sub (.cons _ (.cons _ (.cons _ (List.Sublist.refl _))))) (fun w hS => (yAsg rfl)) ?_
            refine a_end (by kernel_rfl) ?_
            show Code.wp _ _ _ _ _
            refine seq ?_
            refine region ?_
            refine sv (yMove rfl) ?_
            refine nil ?_
            show Code.wp _ _ _ _ _
            refine cond rfl (fun c91 => ?_) (fun c91 => ?_)
            ·
              refine seq ?_
              refine region ?_
              refine sv (yMove rfl) ?_
              refine sv (yAsg rfl) ?_
              refine sv (yAsg rfl) ?_
              refine nil ?_
              show Code.wp _ _ _ _ _
              refine wp_ret (blockR (thenR (thenR (blockR (blockR (thenR (thenR (blockR (thenR ?_)))))))))
              refine retQ (res2 rfl rfl rfl) ?_
              obtain ⟨L2, hL2⟩ := Option.isSome_iff_exists.1 c91
              have hfin := ref_hit (by omega) hcx hgo hN hM (hgF.trans hL2)
              rw [hL2] at hK
              rw [hfin]
              exact ⟨_, rfl, hK, hS.ext⟩
            ·
              refine skip ?_
              show Code.wp _ _ _ _ _
              refine region ?_
              refine sv (yMove h12) ?_
              refine sv (yAdd rfl rfl ⟨by omega, by omega⟩) ?_
              refine sv (yAsg rfl) ?_
              refine nil ?_
              exact ⟨_, _, rfl, ⟨k + 1, h1, h2, h3, h4, h10, h11, rfl, (hS.sub (.cons _ (.cons _ (List.Sublist.refl _)))), (by omega), (ref_stay hcx hM c91), rfl⟩, by omega⟩
      ·
        simp only [Bool.and_eq_true, Bool.or_eq_true, Bool.and_eq_false_iff, Bool.or_eq_false_iff, decide_eq_true_eq, decide_eq_false_iff_not, Bool.not_eq_true, Bool.not_eq_false, Bool.not_not, Bool.not_eq_eq_eq_not, Bool.not_true, Bool.not_false, Bool.false_eq_true, Bool.true_eq_false, ne_eq, Decidable.not_not, not_false_eq_true, not_true_eq_false] at c44
        obtain rfl : k = (twn t i).chans.length := by omega
        rw [List.take_length] at hM
        refine exit ?_
        show Code.wp _ _ _ _ _
        refine region ?_
        refine sv (yMove h11) ?_
        refine sv (yAdd rfl rfl ⟨by omega, by omega⟩) ?_
        refine sv (yAsg rfl) ?_
        refine nil ?_
        exact ⟨_, _, rfl, ⟨d + 1, h1, h2, h3, h4, h10, (rfl.trans (congrArg (Value.int .i64) (by push_cast; omega))), hS, (by omega), (ref_next hN hM), rfl⟩, by omega⟩
    ·
      simp only [Bool.and_eq_true, Bool.or_eq_true, Bool.and_eq_false_iff, Bool.or_eq_false_iff, decide_eq_true_eq, decide_eq_false_iff_not, Bool.not_eq_true, Bool.not_eq_false, Bool.not_not, Bool.not_eq_eq_eq_not, Bool.not_true, Bool.not_false, Bool.false_eq_true, Bool.true_eq_false, ne_eq, Decidable.not_not, not_false_eq_true, not_true_eq_false] at c33
      obtain rfl : d = (wetL t).length + 1 := by omega
      have hfin := ref_over hN
      refine exit ?_
      show Code.wp _ _ _ _ _
      refine seq ?_
      refine region ?_
      refine sv (yAsg rfl) ?_
      refine sv (yAsg rfl) ?_
      refine nil ?_
      show Code.wp _ _ _ _ _
      refine wp_ret ?_
      refine retQ (res2 rfl rfl rfl) ?_
      rw [hfin]
      exact ⟨_, rfl, Sl.nil, hS.ext⟩
theorem c_rplan {t : Task} {hv nv fv wv : Value} {now : Int} (hok : TaskOk t) (hn : 0 ≤ now ∧ now ≤ 200000) : ∀ (r : List Int) (l : List Slot) (lv : Value) (w : World), RTask w [.int .i64 t.polders, hv, nv, fv] t → Sl w 1 RInt wv (wetL t) → Sl w 3 RSlot lv l → ((wetL t)).drop l.length = r → l.length ≤ (wetL t).length → CE Tryz.prog 91 #[.agg [.int .i64 t.polders, hv, nv, fv].toArray, .int .i64 now, wv, lv] w (fun u w' => ∃ v, u = .tuple #[v, .bool ((plT t now).ref r l).isSome] ∧ Sl w' 3 RSlot v (((plT t now).ref r l).getD []) ∧ Ext w w')
  | [], l, lv, w, h, hwv, hl, hr, hle => c_rplan1 h hok hn hwv hl hr hle (fun i r2 e => nomatch e)
  | i :: r, l, lv, w, h, hwv, hl, hr, hle => c_rplan1 h hok hn hwv hl hr hle (fun i2 r2 e l2 lv2 w2 k1 k2 k3 k4 k5 => by cases e; exact c_rplan hok hn r l2 lv2 w2 k1 k2 k3 k4 k5)
set_option maxHeartbeats 2000000 in
/-- barrage/barrageref11.Plan -/
theorem c_rPlan {t : Task} {hv nv fv : Value} {now : Int} {w0 : World} (h : RTask w0 [.int .i64 t.polders, hv, nv, fv] t) : CE Tryz.prog 37 #[.agg [.int .i64 t.polders, hv, nv, fv].toArray, .int .i64 now] w0 (fun u w' => ∃ v, u = .tuple #[v, .int .i64 (planR t now).2] ∧ Sl w' 3 RSlot v (planR t now).1 ∧ Ext w0 w') := by
  obtain ⟨hv', nv', fv', he0, hpol, hsh, hsn, hsf⟩ := id h
  obtain ⟨rfl, rfl, rfl⟩ : hv' = hv ∧ nv' = nv ∧ fv' = fv := by simpa [eq_comm] using he0
  obtain ⟨a1, cap1, rfl, hcap1, hmx1, hel1⟩ := id hsh
  obtain ⟨a2, cap2, rfl, hcap2, hmx2, hel2⟩ := id hsn
  obtain ⟨a3, cap3, rfl, hcap3, hmx3, hel3⟩ := id hsf
  refine enter Tryz.func37 rfl Tryz.ntmps37 rfl ?_
  have hS := St.start w0
  refine seq ?_
  refine region ?_
  refine sbox hS rfl rfl ?_; clear hS; intro b2 w hS
  refine sv (yAsg rfl) ?_
  refine sv (yAsg rfl) ?_
  refine nil ?_
  show Code.wp _ _ _ _ _
  refine seq ?_
  refine region ?_
  refine sv (yLdBA rfl Tryz.isAgg26 Tryz.sizeOf26 (hS.at _) rfl rfl) ?_
  refine scall Tryz.call77 (.cons rfl .nil) (c_rgood (h.ext hS.ext)) ?_
  rintro _ w ⟨rfl, hE⟩; replace hS := hS.step hE; clear hE
  refine sv (yAsg rfl) ?_
  refine nil ?_
  show Code.wp _ _ _ _ _
  refine seqJ (n := 32) (fun f w => f 1 = .int .i64 now ∧ f 2 = .pointer (some ⟨b2, 0, none⟩) ∧ f 6 = .int .i64 (atE t now) ∧ StX [] w0 w [blk b2 [.int .i64 t.polders, .slice a1 t.chans.length cap1, .slice a2 t.towns.length cap2, .slice a3 t.floods.length cap3] 26] ∧ True) ?_ ?_
  ·
    refine seq ?_
    refine region ?_
    refine sv (yMove rfl) ?_
    refine sv (yEql rfl rfl) ?_
    refine sv (yMove rfl) ?_
    refine sg rfl rfl rfl (fun g => (yMove rfl)) (fun v14 g14 => ?_)
    refine sgc hS rfl rfl rfl Tryz.call73 (fun g => (.cons (g14.1 g) .nil)) (fun g => c_rtick) ?_; clear hS; intro v15 w hS g15
    refine sg rfl rfl rfl (fun g => (yNot (g15.1 g))) (fun v16 g16 => ?_)
    refine sv (yAnd rfl (fun hB => (g16.1 hB)) rfl) ?_
    refine nil ?_
    show Code.wp _ _ _ _ _
    refine cond rfl (fun c17 => ?_) (fun c17 => ?_)
    ·
      refine region ?_
      refine sv (yAsg rfl) ?_
      refine nil ?_
      exact ⟨_, rfl, rfl, rfl, (rfl.trans (congrArg (Value.int .i64) ((atE_y c17).symm))), hS, trivial⟩
    ·
      refine skip ?_
      exact ⟨_, rfl, rfl, rfl, (rfl.trans (congrArg (Value.int .i64) ((atE_n c17).symm))), hS, trivial⟩
  ·
    clear hS; rintro f w ⟨h1, h2, h6, hS, -⟩
    refine seq ?_
    refine seq ?_
    refine region ?_
    refine sv (yMove h6) ?_
    refine sv (yNeq rfl rfl) ?_
    refine nil ?_
    show Code.wp _ _ _ _ _
    refine cond rfl (fun c19 => ?_) (fun c19 => ?_)
    ·
      simp only [Bool.and_eq_true, Bool.or_eq_true, Bool.and_eq_false_iff, Bool.or_eq_false_iff, decide_eq_true_eq, decide_eq_false_iff_not, Bool.not_eq_true, Bool.not_eq_false, Bool.not_not, Bool.not_eq_eq_eq_not, Bool.not_true, Bool.not_false, Bool.false_eq_true, Bool.true_eq_false, ne_eq, Decidable.not_not, not_false_eq_true, not_true_eq_false] at c19
      refine seq ?_
      refine region ?_
      refine sv (yMove h6) ?_
      refine sv (yAsg rfl) ?_
      refine sv (yAsg rfl) ?_
      refine nil ?_
      show Code.wp _ _ _ _ _
      refine wp_ret (thenR ?_)
      refine retQ (res2 rfl rfl rfl) ?_
      have hf : planR t now = ([], atE t now) := if_pos c19
      rw [hf]
      exact ⟨_, rfl, Sl.nil, hS.ext⟩
    ·
      simp only [Bool.and_eq_true, Bool.or_eq_true, Bool.and_eq_false_iff, Bool.or_eq_false_iff, decide_eq_true_eq, decide_eq_false_iff_not, Bool.not_eq_true, Bool.not_eq_false, Bool.not_not, Bool.not_eq_eq_eq_not, Bool.not_true, Bool.not_false, Bool.false_eq_true, Bool.true_eq_false, ne_eq, Decidable.not_not, not_false_eq_true, not_true_eq_false] at c19
      obtain ⟨hok, hn⟩ := atE_ok c19
      have hn8 := hok.ntw
      have hwl := wetL_len t
      have hpr := planR_ref c19
      refine skip ?_
      show Code.wp _ _ _ _ _
      refine seq ?_
      refine region_mix (fun w => StX [] w0 w [blk b2 [.int .i64 t.polders, .slice a1 t.chans.length cap1, .slice a2 t.towns.length cap2, .slice a3 t.floods.length cap3] 26]) 10 mixed hS ?_
      clear hS; intro w hS
      refine f_step 0 (by kernel_rfl) rfl (fun c a a' w h => by obtain ⟨_, v, hv, _⟩ := h; cases hv) (by first | exact hS | exact hS.sub (.cons _ (List.Sublist.refl _)) | exact hS.sub (.cons _ (.cons _ (List.Sublist.refl _)))) (fun w hS => (yLdBA h2 Tryz.isAgg26 Tryz.sizeOf26 (hS.at _) rfl rfl)) ?_
      refine f_step 1 (by kernel_rfl) rfl (fun c a a' w h => by obtain ⟨_, v, hv, _⟩ := h; cases hv) (by first | exact hS | exact hS.sub (.cons _ (List.Sublist.refl _)) | exact hS.sub (.cons _ (.cons _ (List.Sublist.refl _)))) (fun w hS => (yMove h1)) ?_
      refine f_step 2 (by kernel_rfl) rfl (fun c a a' w h => by obtain ⟨_, v, hv, _⟩ := h; cases hv) (by first | exact hS | exact hS.sub (.cons _ (List.Sublist.refl _)) | exact hS.sub (.cons _ (.cons _ (List.Sublist.refl _)))) (fun w hS => (yLdBA h2 Tryz.isAgg26 Tryz.sizeOf26 (hS.at _) rfl rfl)) ?_
      show wpA _ _ _ _ _ _ _ _ _ _
      refine a_step (i := 3) (is := []) (by kernel_rfl) ⟨?_, trivial⟩
      refine ⟨_, rfl, ?_⟩
      refine scall Tryz.call79 (.cons rfl .nil) (c_rwet (h.ext hS.ext) hok) ?_
      rintro tv w hM; replace hS := hS.call1 hM; clear hM
      obtain ⟨aw, cw, rfl⟩ := row_shape (hS.row tv)
      refine nil ?_
      refine ⟨fun _ => (by first | exact hS | exact hS.sub (.cons _ (List.Sublist.refl _)) | exact hS.sub (.cons _ (.cons _ (List.Sublist.refl _)))), ?_⟩
      show wpA _ _ _ _ _ _ _ _ _ _
      show wpA _ _ _ _ _ _ _ _ _ _
      refine a_step (i := 4) (is := []) (by kernel_rfl) ⟨?_, trivial⟩
      refine ⟨_, rfl, ?_⟩
      refine scall Tryz.call91 (.cons rfl (.cons rfl (.cons rfl (.cons rfl .nil)))) (c_rplan hok hn (wetL t) [] (.slice none 0 0) _ (h.ext hS.ext) (sl_ints (hS.row (.slice aw (wetL t).length cw)) rfl (fun x hx => by have := wet_mem hx; constructor <;> omega)) Sl.nil rfl (Nat.zero_le _)) ?_
      rintro _ w ⟨vv, rfl, hK, hE⟩; replace hS := hS.step hE; clear hE
      refine nil ?_
      refine ⟨fun _ => (by first | exact hS | exact hS.sub (.cons _ (List.Sublist.refl _)) | exact hS.sub (.cons _ (.cons _ (List.Sublist.refl _)))), ?_⟩
      show wpA _ _ _ _ _ _ _ _ _ _
      refine f_step 5 (by kernel_rfl) rfl (fun c a a' w h => by obtain ⟨_, v, hv, _⟩ := h; cases hv) (by first | exact hS | exact hS.sub (.cons _ (List.Sublist.refl _)) | exact hS.sub (.cons _ (.cons _ (List.Sublist.refl _)))) (fun w hS => (yMove rfl)) ?_
      refine f_step 6 (by kernel_rfl) rfl (fun c a a' w h => by obtain ⟨_, v, hv, _⟩ := h; cases hv) (by first | exact hS | exact hS.sub (.cons _ (List.Sublist.refl _)) | exact hS.sub (.cons _ (.cons _ (List.Sublist.refl _)))) (fun w hS => (yExt rfl rfl)) ?_
      refine f_step 7 (by kernel_rfl) rfl (fun c a a' w h => by obtain ⟨_, v, hv, _⟩ := h; cases hv) (by first | exact hS | exact hS.sub (.cons _ (List.Sublist.refl _)) | exact hS.sub (.cons _ (.cons _ (List.Sublist.refl _)))) (fun w hS => (yExt rfl rfl)) ?_
      refine f_step 8 (by kernel_rfl) rfl (fun c a a' w h => by obtain ⟨_, v, hv, _⟩ := h; cases hv) (by first | exact hS | exact hS.sub (.cons _ (List.Sublist.refl _)) | exact hS.sub (.cons _ (.cons _ (List.Sublist.refl _)))) (fun w hS => (yAsg rfl)) ?_
      refine f_step 9 (by kernel_rfl) rfl (fun c a a' w h => by obtain ⟨_, v, hv, _⟩ := h; cases hv) (by first | exact hS | exact hS.sub (.cons _ (List.Sublist.refl _)) | exact hS.sub (.cons _ (.cons _ (List.Sublist.refl _)))) (fun w hS => (yAsg rfl)) ?_
      refine a_end (by kernel_rfl) ?_
      show Code.wp _ _ _ _ _
      refine seq ?_
      refine seq ?_
      refine region ?_
      refine sv (yMove rfl) ?_
      refine sv (yNot rfl) ?_
      refine nil ?_
      show Code.wp _ _ _ _ _
      refine cond rfl (fun c30 => ?_) (fun c30 => ?_)
      ·
        refine seq ?_
        refine region ?_
        refine sv (yAsg rfl) ?_
        refine sv (yAsg rfl) ?_
        refine nil ?_
        show Code.wp _ _ _ _ _
        refine wp_ret (thenR ?_)
        refine retQ (res2 rfl rfl rfl) ?_
        cases hq : (plT t now).ref (wetL t) [] with
        | some L => rw [hq] at c30; cases c30
        | none =>
          rw [hq] at hpr
          rw [hpr]
          exact ⟨_, rfl, Sl.nil, hS.ext⟩
      ·
        refine skip ?_
        show Code.wp _ _ _ _ _
        refine seq ?_
        refine region ?_
        refine sv (yMove rfl) ?_
        refine sv (yAsg rfl) ?_
        refine sv (yAsg rfl) ?_
        refine nil ?_
        show Code.wp _ _ _ _ _
        refine wp_ret ?_
        refine retQ (res2 rfl rfl rfl) ?_
        cases hq : (plT t now).ref (wetL t) [] with
        | none => rw [hq] at c30; cases c30
        | some L =>
          rw [hq] at hpr hK
          rw [hpr]
          exact ⟨_, rfl, hK, hS.ext⟩
end Go.Proofs.YtmoilbakmlekbaaGreatDoor

/- part Aw45 -/
namespace Go.Proofs.YtmoilbakmlekbaaGreatDoor
open Go Bx
set_option maxHeartbeats 4000000 in
/-- barrage/barrageref11.slots -/
theorem c_rslots {t : Task} {hv nv fv : Value} {now : Int} {A : List Int} {va : Value} {w0 : World} (h : RTask w0 [.int .i64 t.polders, hv, nv, fv] t) (hok : TaskOk t) (hn : 0 ≤ now ∧ now ≤ 200000) (hA : Sl w0 1 RInt va A) (hAm : ∀ i ∈ A, 0 ≤ i ∧ i < t.towns.length) : CV Tryz.prog 95 #[.agg [.int .i64 t.polders, hv, nv, fv].toArray, .int .i64 now, va] w0 (.int .i64 ((plT t now).slots (chL t) A)) := by
  obtain ⟨hv', nv', fv', he0, hpol, hsh, hsn, hsf⟩ := id h
  obtain ⟨rfl, rfl, rfl⟩ : hv' = hv ∧ nv' = nv ∧ fv' = fv := by simpa [eq_comm] using he0
  obtain ⟨a1, cap1, rfl, hcap1, hmx1, hel1⟩ := id hsh
  obtain ⟨a2, cap2, rfl, hcap2, hmx2, hel2⟩ := id hsn
  obtain ⟨a3, cap3, rfl, hcap3, hmx3, hel3⟩ := id hsf
  obtain ⟨av, cv, rfl, hcapv, hmxv, helv⟩ := id hA
  have hn8 := hok.ntw
  have hc4 := hok.nch
  refine enter Tryz.func95 rfl Tryz.ntmps95 rfl ?_
  have hS := St.start w0
  refine seq ?_
  refine region ?_
  refine sbox hS rfl rfl ?_; clear hS; intro b3 w hS
  refine sv (yAsg rfl) ?_
  refine nil ?_
  show Code.wp _ _ _ _ _
  refine seq ?_
  refine region ?_
  refine sv (yAsg rfl) ?_
  refine nil ?_
  show Code.wp _ _ _ _ _
  refine seq ?_
  refine seq ?_
  refine region ?_
  refine sv (yAsg rfl) ?_
  refine nil ?_
  show Code.wp _ _ _ _ _
  refine block ?_
  refine loop (fun f w zz => ∃ (c : Nat), f 1 = .int .i64 now ∧ f 2 = .slice av A.length cv ∧ f 3 = .pointer (some ⟨b3, 0, none⟩) ∧ f 7 = .int .i64 (slK t now A c) ∧ f 8 = .int .i64 (c : Int) ∧ StX [] w0 w [blk b3 [.int .i64 t.polders, .slice a1 t.chans.length cap1, .slice a2 t.towns.length cap2, .slice a3 t.floods.length cap3] 26] ∧ (c ≤ t.chans.length) ∧ zz = t.chans.length - c) _ ⟨_, rfl, 0, rfl, rfl, rfl, rfl, rfl, hS, (Nat.zero_le _), rfl⟩ ?_
  clear hS
  rintro f w _ ⟨c, h1, h2, h3, h7, h8, hS, hc, rfl⟩
  refine seq ?_
  refine seq ?_
  refine region ?_
  refine sv (yMove h8) ?_
  refine sv (fa26_1 h3) ?_
  refine sv (yLdB rfl Tryz.isAgg22 (hS.at _) rfl) ?_
  refine sv (yLen rfl Tryz.underlying22) ?_
  refine sv (yLss rfl rfl) ?_
  refine nil ?_
  show Code.wp _ _ _ _ _
  refine cond rfl (fun c16 => ?_) (fun c16 => ?_)
  ·
    simp only [Bool.and_eq_true, Bool.or_eq_true, Bool.and_eq_false_iff, Bool.or_eq_false_iff, decide_eq_true_eq, decide_eq_false_iff_not, Bool.not_eq_true, Bool.not_eq_false, Bool.not_not, Bool.not_eq_eq_eq_not, Bool.not_true, Bool.not_false, Bool.false_eq_true, Bool.true_eq_false, ne_eq, Decidable.not_not, not_false_eq_true, not_true_eq_false] at c16
    have hcl : c < t.chans.length := by omega
    have hcb : 0 ≤ (c : Int) ∧ (c : Int) < t.chans.length := by omega
    have hsb := slK_bd hok hn.1 A c hc
    obtain ⟨bc, oc, csc, hac, hlc, hcsc, hRc, -⟩ := sl_at hsh (chn_i (t := t) hcb)
    obtain ⟨rfl, -⟩ := hRc
    have hco := chan_ok hok hcb
    refine skip ?_
    show Code.wp _ _ _ _ _
    refine seq ?_
    refine block ?_
    refine seq ?_
    refine region ?_
    refine sv (yMove h1) ?_
    refine sv (ySub rfl rfl ⟨by omega, by omega⟩) ?_
    refine sv (yAsg rfl) ?_
    refine nil ?_
    show Code.wp _ _ _ _ _
    refine seq ?_
    refine seq ?_
    refine region ?_
    refine sv (yAsg rfl) ?_
    refine nil ?_
    show Code.wp _ _ _ _ _
    refine block ?_
    refine loop (fun f w zz => ∃ (j : Nat), f 1 = .int .i64 now ∧ f 2 = .slice av A.length cv ∧ f 3 = .pointer (some ⟨b3, 0, none⟩) ∧ f 7 = .int .i64 (slK t now A c) ∧ f 8 = .int .i64 (c : Int) ∧ f 9 = .int .i64 ((plT t now).cnt (c : Int) (A.take j) + now - 1) ∧ f 10 = .int .i64 (j : Int) ∧ StX [] w0 w [blk b3 [.int .i64 t.polders, .slice a1 t.chans.length cap1, .slice a2 t.towns.length cap2, .slice a3 t.floods.length cap3] 26] ∧ (j ≤ A.length) ∧ zz = A.length - j) _ ⟨_, rfl, 0, h1, h2, h3, h7, h8, (rfl.trans (congrArg (Value.int .i64) (by show now - 1 = 0 + now - 1; omega))), rfl, hS, (Nat.zero_le _), rfl⟩ ?_
    clear hS
    rintro f w _ ⟨j, h1, h2, h3, h7, h8, h9, h10, hS, hj, rfl⟩
    refine seq ?_
    refine seq ?_
    refine region ?_
    refine sv (yMove h10) ?_
    refine sv (yMove h2) ?_
    refine sv (yLen rfl Tryz.underlying34) ?_
    refine sv (yLss rfl rfl) ?_
    refine nil ?_
    show Code.wp _ _ _ _ _
    refine cond rfl (fun c24 => ?_) (fun c24 => ?_)
    ·
      simp only [Bool.and_eq_true, Bool.or_eq_true, Bool.and_eq_false_iff, Bool.or_eq_false_iff, decide_eq_true_eq, decide_eq_false_iff_not, Bool.not_eq_true, Bool.not_eq_false, Bool.not_not, Bool.not_eq_eq_eq_not, Bool.not_true, Bool.not_false, Bool.false_eq_true, Bool.true_eq_false, ne_eq, Decidable.not_not, not_false_eq_true, not_true_eq_false] at c24
      obtain ⟨i, hxv, hdv⟩ := drop_of (l := A) (k := j) (by omega)
      obtain ⟨bv, ov, csv, hav, hlenv, hcsv, hRv⟩ := helv (j) (by omega)
      obtain rfl : i = A[j] := (List.getElem?_eq_some_iff.1 hxv).2.symm
      generalize A[j] = i at hxv hdv hRv
      obtain ⟨rfl, hiI⟩ := hRv
      have hib := hAm i (List.mem_of_getElem? hxv)
      obtain ⟨bt, ot, cst, hat, hlt, hcst, hRt, -⟩ := sl_at hsn (twn_i (t := t) hib)
      obtain ⟨dvt, rfl, -, -, -, -, hslt, -⟩ := hRt
      have hto := town_ok hok hib
      have htl := hto.lead
      obtain ⟨ad, cd, rfl, -⟩ := id hslt
      have hll : latestF t i (c : Int) = min 200000 (actF t i - (chn t (c : Int)).delay) := rfl
      have hla := act_bd hok hib
      have hcl4 := chans_len hok hib
      refine skip ?_
      show Code.wp _ _ _ _ _
      refine seq ?_
      refine block ?_
      refine seq ?_
      refine region ?_
      refine sv (yAsg rfl) ?_
      refine nil ?_
      show Code.wp _ _ _ _ _
      refine block ?_
      refine loop (fun f w zz => ∃ (k : Nat), f 1 = .int .i64 now ∧ f 2 = .slice av A.length cv ∧ f 3 = .pointer (some ⟨b3, 0, none⟩) ∧ f 7 = .int .i64 (slK t now A c) ∧ f 8 = .int .i64 (c : Int) ∧ f 9 = .int .i64 (endK t now (c : Int) (A.take j) i k) ∧ f 10 = .int .i64 (j : Int) ∧ f 11 = .int .i64 (k : Int) ∧ StX [] w0 w [blk b3 [.int .i64 t.polders, .slice a1 t.chans.length cap1, .slice a2 t.towns.length cap2, .slice a3 t.floods.length cap3] 26] ∧ (k ≤ (twn t i).chans.length) ∧ zz = (twn t i).chans.length - k) _ ⟨_, rfl, 0, h1, h2, h3, h7, h8, (h9.trans (congrArg (Value.int .i64) ((endK_0 t now (c : Int) (A.take j) i).symm))), h10, rfl, hS, (Nat.zero_le _), rfl⟩ ?_
      clear hS
      rintro f w _ ⟨k, h1, h2, h3, h7, h8, h9, h10, h11, hS, hk, rfl⟩
      refine seq ?_
      refine seq ?_
      refine region_draw mixed (by kernel_rfl) hS ?_
      refine qv (fun w hS => (yMove h11)) ?_
      refine qv (fun w hS => (fa26_2 h3)) ?_
      refine qv (fun w hS => (yLdB rfl Tryz.isAgg23 (hS.at _) rfl)) ?_
      refine qv (fun w hS => (yMove h2)) ?_
      refine qv (fun w hS => (yMove h10)) ?_
      refine qv (fun w hS => (yIxa rfl hav rfl Tryz.runUnderlying34 Tryz.sizeOf3 (by omega) (by omega))) ?_
      refine qv (fun w hS => (yLd rfl Tryz.isAgg3 ((hcsv.ext hS.ext).one))) ?_
      refine qv (fun w hS => (yIxa rfl hat rfl Tryz.runUnderlying23 Tryz.sizeOf36 (by omega) (by omega))) ?_
      refine qv (fun w hS => (fa36_4 rfl)) ?_
      refine qv (fun w hS => (yLd rfl Tryz.isAgg34 ((hcst.ext hS.ext).at (j := 4) rfl))) ?_
      refine qv (fun w hS => (yLen rfl Tryz.underlying34)) ?_
      refine qv (fun w hS => (yLss rfl rfl)) ?_
      clear hS; refine qnil (fun w hS => ?_)
      show Code.wp _ _ _ _ _
      refine cond rfl (fun c38 => ?_) (fun c38 => ?_)
      ·
        simp only [Bool.and_eq_true, Bool.or_eq_true, Bool.and_eq_false_iff, Bool.or_eq_false_iff, decide_eq_true_eq, decide_eq_false_iff_not, Bool.not_eq_true, Bool.not_eq_false, Bool.not_not, Bool.not_eq_eq_eq_not, Bool.not_true, Bool.not_false, Bool.false_eq_true, Bool.true_eq_false, ne_eq, Decidable.not_not, not_false_eq_true, not_true_eq_false] at c38
        obtain ⟨q, hcx, -⟩ := drop_of (l := (twn t i).chans) (k := k) (by omega)
        obtain ⟨bk, oq, csk, hak, hlk, hcsk, hRk, -⟩ := sl_at hslt hcx
        obtain ⟨rfl, -⟩ := hRk
        refine skip ?_
        show Code.wp _ _ _ _ _
        refine seq ?_
        refine block ?_
        refine seq ?_
        refine region_draw mixed (by kernel_rfl) hS ?_
        refine qv (fun w hS => (fa26_2 h3)) ?_
        refine qv (fun w hS => (yLdB rfl Tryz.isAgg23 (hS.at _) rfl)) ?_
        refine qv (fun w hS => (yMove h2)) ?_
        refine qv (fun w hS => (yMove h10)) ?_
        refine qv (fun w hS => (yIxa rfl hav rfl Tryz.runUnderlying34 Tryz.sizeOf3 (by omega) (by omega))) ?_
        refine qv (fun w hS => (yLd rfl Tryz.isAgg3 ((hcsv.ext hS.ext).one))) ?_
        refine qv (fun w hS => (yIxa rfl hat rfl Tryz.runUnderlying23 Tryz.sizeOf36 (by omega) (by omega))) ?_
        refine qv (fun w hS => (fa36_4 rfl)) ?_
        refine qv (fun w hS => (yLd rfl Tryz.isAgg34 ((hcst.ext hS.ext).at (j := 4) rfl))) ?_
        refine qv (fun w hS => (yMove h11)) ?_
        refine qv (fun w hS => (yIxa rfl hak rfl Tryz.runUnderlying34 Tryz.sizeOf3 (by omega) (by omega))) ?_
        refine qv (fun w hS => (yLd rfl Tryz.isAgg3 ((hcsk.ext hS.ext).one))) ?_
        refine qv (fun w hS => (yMove h8)) ?_
        refine qv (fun w hS => (yEql rfl rfl)) ?_
        clear hS; refine qnil (fun w hS => ?_)
        show Code.wp _ _ _ _ _
        refine cond rfl (fun c54 => ?_) (fun c54 => ?_)
        ·
          simp only [Bool.and_eq_true, Bool.or_eq_true, Bool.and_eq_false_iff, Bool.or_eq_false_iff, decide_eq_true_eq, decide_eq_false_iff_not, Bool.not_eq_true, Bool.not_eq_false, Bool.not_not, Bool.not_eq_eq_eq_not, Bool.not_true, Bool.not_false, Bool.false_eq_true, Bool.true_eq_false, ne_eq, Decidable.not_not, not_false_eq_true, not_true_eq_false] at c54
          refine region_draw mixed (by kernel_rfl) hS ?_
          refine qv (fun w hS => (yMove h9)) ?_
          refine qv (fun w hS => (yLdBA h3 Tryz.isAgg26 Tryz.sizeOf26 (hS.at _) rfl rfl)) ?_
          refine qv (fun w hS => (yMove h2)) ?_
          refine qv (fun w hS => (yMove h10)) ?_
          refine qv (fun w hS => (yIxa rfl hav rfl Tryz.runUnderlying34 Tryz.sizeOf3 (by omega) (by omega))) ?_
          refine qv (fun w hS => (yLd rfl Tryz.isAgg3 ((hcsv.ext hS.ext).one))) ?_
          refine qv (fun w hS => (yMove h8)) ?_
          refine qcall Tryz.call121 (.cons rfl (.cons rfl (.cons rfl .nil))) (fun w hS => (c_rlatest (h.ext hS.ext) hok hib hcb)) ?_
          refine qv (fun w hS => (yMax rfl rfl)) ?_
          refine qv (fun w hS => (yAsg rfl)) ?_
          clear hS; refine qnil (fun w hS => ?_)
          show Code.wp _ _ _ _ _
          refine region ?_
          refine sv (yMove h11) ?_
          refine sv (yAdd rfl rfl ⟨by omega, by omega⟩) ?_
          refine sv (yAsg rfl) ?_
          refine nil ?_
          exact ⟨_, _, rfl, ⟨k + 1, h1, h2, h3, h7, h8, (rfl.trans (congrArg (Value.int .i64) ((endK_y (hcx.trans (congrArg some c54))).symm))), h10, rfl, hS, (by omega), rfl⟩, by omega⟩
        ·
          simp only [Bool.and_eq_true, Bool.or_eq_true, Bool.and_eq_false_iff, Bool.or_eq_false_iff, decide_eq_true_eq, decide_eq_false_iff_not, Bool.not_eq_true, Bool.not_eq_false, Bool.not_not, Bool.not_eq_eq_eq_not, Bool.not_true, Bool.not_false, Bool.false_eq_true, Bool.true_eq_false, ne_eq, Decidable.not_not, not_false_eq_true, not_true_eq_false] at c54
          refine skip ?_
          show Code.wp _ _ _ _ _
          refine region ?_
          refine sv (yMove h11) ?_
          refine sv (yAdd rfl rfl ⟨by omega, by omega⟩) ?_
          refine sv (yAsg rfl) ?_
          refine nil ?_
          exact ⟨_, _, rfl, ⟨k + 1, h1, h2, h3, h7, h8, (h9.trans (congrArg (Value.int .i64) ((endK_n hcx c54).symm))), h10, rfl, hS, (by omega), rfl⟩, by omega⟩
      ·
        simp only [Bool.and_eq_true, Bool.or_eq_true, Bool.and_eq_false_iff, Bool.or_eq_false_iff, decide_eq_true_eq, decide_eq_false_iff_not, Bool.not_eq_true, Bool.not_eq_false, Bool.not_not, Bool.not_eq_eq_eq_not, Bool.not_true, Bool.not_false, Bool.false_eq_true, Bool.true_eq_false, ne_eq, Decidable.not_not, not_false_eq_true, not_true_eq_false] at c38
        obtain rfl : k = (twn t i).chans.length := by omega
        refine exit ?_
        show Code.wp _ _ _ _ _
        refine region ?_
        refine sv (yMove h10) ?_
        refine sv (yAdd rfl rfl ⟨by omega, by omega⟩) ?_
        refine sv (yAsg rfl) ?_
        refine nil ?_
        exact ⟨_, _, rfl, ⟨j + 1, h1, h2, h3, h7, h8, (h9.trans (congrArg (Value.int .i64) (endK_end hxv))), rfl, hS, (by omega), rfl⟩, by omega⟩
    ·
      simp only [Bool.and_eq_true, Bool.or_eq_true, Bool.and_eq_false_iff, Bool.or_eq_false_iff, decide_eq_true_eq, decide_eq_false_iff_not, Bool.not_eq_true, Bool.not_eq_false, Bool.not_not, Bool.not_eq_eq_eq_not, Bool.not_true, Bool.not_false, Bool.false_eq_true, Bool.true_eq_false, ne_eq, Decidable.not_not, not_false_eq_true, not_true_eq_false] at c24
      obtain rfl : j = A.length := by omega
      rw [List.take_length] at h9
      have hcn := cnt_bd (plT_late t hn.1) (c : Int) A
      have hpr := prod_bd hcn hco.2
      have hmul : ((plT t now).cnt (c : Int) A + now - 1 - now + 1) * (chn t (c : Int)).room = (plT t now).cnt (c : Int) A * (chn t (c : Int)).room := by rw [show (plT t now).cnt (c : Int) A + now - 1 - now + 1 = (plT t now).cnt (c : Int) A by omega]
      refine exit ?_
      show Code.wp _ _ _ _ _
      refine region ?_
      refine sv (yMove h7) ?_
      refine sv (yMove h9) ?_
      refine sv (yMove h1) ?_
      refine sv (ySub rfl rfl ⟨by omega, by omega⟩) ?_
      refine sv (yAdd rfl rfl ⟨by omega, by omega⟩) ?_
      refine sv (fa26_1 h3) ?_
      refine sv (yLdB rfl Tryz.isAgg22 (hS.at _) rfl) ?_
      refine sv (yMove h8) ?_
      refine sv (yIxa rfl hac rfl Tryz.runUnderlying22 Tryz.sizeOf41 (by omega) (by omega)) ?_
      refine sv (fa41_2 rfl) ?_
      refine sv (yLd rfl Tryz.isAgg3 ((hcsc.ext hS.ext).at (j := 2) rfl)) ?_
      refine sv (yMul rfl rfl (by rw [hmul]; exact ⟨by omega, by omega⟩)) ?_
      refine sv (yAdd rfl rfl (by rw [hmul]; exact ⟨by omega, by omega⟩)) ?_
      refine sv (yAsg rfl) ?_
      refine nil ?_
      show Code.wp _ _ _ _ _
      refine region ?_
      refine sv (yMove h8) ?_
      refine sv (yAdd rfl rfl ⟨by omega, by omega⟩) ?_
      refine sv (yAsg rfl) ?_
      refine nil ?_
      exact ⟨_, _, rfl, ⟨c + 1, h1, h2, h3, (rfl.trans (congrArg (Value.int .i64) (by rw [slK_succ now A hcl, show (plT t now).cnt (c : Int) A + now - 1 - now + 1 = (plT t now).cnt (c : Int) A by omega]))), rfl, hS, (by omega), rfl⟩, by omega⟩
  ·
    simp only [Bool.and_eq_true, Bool.or_eq_true, Bool.and_eq_false_iff, Bool.or_eq_false_iff, decide_eq_true_eq, decide_eq_false_iff_not, Bool.not_eq_true, Bool.not_eq_false, Bool.not_not, Bool.not_eq_eq_eq_not, Bool.not_true, Bool.not_false, Bool.false_eq_true, Bool.true_eq_false, ne_eq, Decidable.not_not, not_false_eq_true, not_true_eq_false] at c16
    obtain rfl : c = t.chans.length := by omega
    refine exit ?_
    show Code.wp _ _ _ _ _
    refine seq ?_
    refine region ?_
    refine sv (yMove h7) ?_
    refine sv (yAsg rfl) ?_
    refine nil ?_
    show Code.wp _ _ _ _ _
    refine wp_ret ?_
    exact retV (res1 rfl (eqI (slK_end t now A).symm)) hS.ext
set_option maxHeartbeats 4000000 in
/-- barrage/barrageref11.sets -/
theorem c_rsets1 {n : Nat} {l : List Int} {v : Value} {w0 : World} (hl : Sl w0 1 RInt v l) (hlen : l.length ≤ 8) (hnn : n ≤ 1000) (ih : ∀ (m : Nat), n = m + 1 → ∀ (l : List Int) (v : Value) (w : World), Sl w 1 RInt v l → l.length ≤ 8 → m ≤ 1000 → CE Tryz.prog 94 #[v, .int .i64 (m : Int)] w (fun u w' => ∃ vs, vs.length = (setsR l m).length ∧ St w w' [packI (inI vs (setsR l m)), rowI u 34 1 (setsR l m).length vs])) : CE Tryz.prog 94 #[v, .int .i64 (n : Int)] w0 (fun u w' => ∃ vs, vs.length = (setsR l n).length ∧ St w0 w' [packI (inI vs (setsR l n)), rowI u 34 1 (setsR l n).length vs]) := by
  obtain ⟨al, cl, rfl, hlcap, hlmx, hlel⟩ := id hl
  refine enter Tryz.func94 rfl Tryz.ntmps94 rfl ?_
  have hS := St.start w0
  refine seq ?_
  refine region ?_
  refine sv (yAsg rfl) ?_
  refine nil ?_
  show Code.wp _ _ _ _ _
  refine seq ?_
  refine seq ?_
  refine region ?_
  refine sv (yMove rfl) ?_
  refine sv (yEql rfl rfl) ?_
  refine nil ?_
  show Code.wp _ _ _ _ _
  refine cond rfl (fun c10 => ?_) (fun c10 => ?_)
  ·
    simp only [Bool.and_eq_true, Bool.or_eq_true, Bool.and_eq_false_iff, Bool.or_eq_false_iff, decide_eq_true_eq, decide_eq_false_iff_not, Bool.not_eq_true, Bool.not_eq_false, Bool.not_not, Bool.not_eq_eq_eq_not, Bool.not_true, Bool.not_false, Bool.false_eq_true, Bool.true_eq_false, ne_eq, Decidable.not_not, not_false_eq_true, not_true_eq_false] at c10
    refine seq ?_
    refine region ?_
    refine sbslice hS Tryz.underlying24 Tryz.sizeOf34 rfl Tryz.zeroValue34 rfl (.cons rfl rfl .nil) rfl ?_; clear hS; intro b11 w hS
    refine sv (yAsg rfl) ?_
    refine nil ?_
    show Code.wp _ _ _ _ _
    refine wp_ret (thenR ?_)
    refine retQ (res1 rfl rfl) ?_
    obtain rfl : n = 0 := by omega
    replace hS : StX [] w0 w (blk b11 [.slice none 0 0] 34 :: []) := hS
    rw [setsR_0]
    exact ⟨[.slice none 0 0], rfl, StX.pack (M := [_]) ((hS.toRow 1 1 (by simp) (by decide)).nilrow 3 1)⟩
  ·
    simp only [Bool.and_eq_true, Bool.or_eq_true, Bool.and_eq_false_iff, Bool.or_eq_false_iff, decide_eq_true_eq, decide_eq_false_iff_not, Bool.not_eq_true, Bool.not_eq_false, Bool.not_not, Bool.not_eq_eq_eq_not, Bool.not_true, Bool.not_false, Bool.false_eq_true, Bool.true_eq_false, ne_eq, Decidable.not_not, not_false_eq_true, not_true_eq_false] at c10
    obtain ⟨m, hm⟩ : ∃ m, n = m + 1 := ⟨n - 1, by omega⟩
    have hfew := sets_few hlen (m + 1)
    refine skip ?_
    show Code.wp _ _ _ _ _
    refine seq ?_
    refine region ?_
    refine sv (yAsg rfl) ?_
    refine nil ?_
    show Code.wp _ _ _ _ _
    refine seq ?_
    refine seq ?_
    refine region ?_
    refine sv (yAsg rfl) ?_
    refine nil ?_
    show Code.wp _ _ _ _ _
    refine block ?_
    refine loop (fun f w zz => ∃ (i : Nat) (zs : LLI) (vs : List Value) (ov : Value), f 0 = .slice al l.length cl ∧ f 1 = .int .i64 (n : Int) ∧ f 5 = ov ∧ f 6 = .int .i64 (i : Int) ∧ StX [] w0 w [packI (inI vs zs), rowI (ov) 34 1 zs.length vs] ∧ (i ≤ l.length) ∧ (vs.length = zs.length) ∧ (setsR l (m + 1) = zs ++ setsR (l.drop i) (m + 1)) ∧ zz = l.length - i) _ ⟨_, rfl, 0, [], [], _, rfl, rfl, rfl, rfl, (StX.pack (M := []) (hS.nilrow 34 1)), (Nat.zero_le _), (rfl), (rfl), rfl⟩ ?_
    clear hS
    rintro f w _ ⟨i, zs, vs, ov, h0, h1, h5, h6, hS, hi, hvl, hI, rfl⟩
    refine seq ?_
    refine seq ?_
    refine region ?_
    refine sv (yMove h6) ?_
    refine sv (yMove h0) ?_
    refine sv (yLen rfl Tryz.underlying34) ?_
    refine sv (yLss rfl rfl) ?_
    refine nil ?_
    show Code.wp _ _ _ _ _
    refine cond rfl (fun c15 => ?_) (fun c15 => ?_)
    ·
      simp only [Bool.and_eq_true, Bool.or_eq_true, Bool.and_eq_false_iff, Bool.or_eq_false_iff, decide_eq_true_eq, decide_eq_false_iff_not, Bool.not_eq_true, Bool.not_eq_false, Bool.not_not, Bool.not_eq_eq_eq_not, Bool.not_true, Bool.not_false, Bool.false_eq_true, Bool.true_eq_false, ne_eq, Decidable.not_not, not_false_eq_true, not_true_eq_false] at c15
      obtain ⟨a, hxa, -⟩ := drop_of (l := l) (k := i) (by omega)
      obtain ⟨ba, oa, csa, haa, hla, hcsa, hRa, -⟩ := sl_at hl hxa
      obtain ⟨rfl, -⟩ := hRa
      refine skip ?_
      show Code.wp _ _ _ _ _
      refine seq ?_
      refine block ?_
      refine seq ?_
      refine region ?_
      refine sv (yMove h0) ?_
      refine sv (yMove h6) ?_
      refine sv (yAdd rfl rfl ⟨by omega, by omega⟩) ?_
      refine sv (yFromA (i := i + 1) rfl (rfl.trans (congrArg (Value.int .i64) (by simp))) Tryz.underlying34 Tryz.sizeOf3 (by omega)) ?_
      refine sv (yMove h1) ?_
      refine sv (Y.to (ySub rfl rfl ⟨by omega, by omega⟩) (congrArg (Value.int .i64) (show (n : Int) - 1 = (m : Int) by omega))) ?_
      refine scall Tryz.call94 (.cons rfl (.cons rfl .nil)) (ih m hm (l.drop (i + 1)) _ _ ((hl.ext RInt.stays hS.ext).drop (i := i + 1) (by omega)) (by rw [List.length_drop]; omega) (by omega)) ?_
      rintro rv w ⟨us, hul, hM⟩; replace hS := hS.call hM; clear hM
      replace hS := StX.fr (A := [_, _]) (B := [_, _]) (L := []) hS
      replace hS : StX [] w0 w (packI (inI vs zs) :: rowI (ov) 34 1 zs.length vs :: packI (inI us (setsR (l.drop (i + 1)) m)) :: rowI (rv) 34 1 (setsR (l.drop (i + 1)) m).length us :: []) := hS
      obtain ⟨ar, cr, rfl⟩ := row_shape (hS.row rv)
      have hstep := sets_step hxa hI
      have hzl : zs.length + (setsR (l.drop (i + 1)) m).length ≤ 256 := by have := congrArg List.length hstep; simp only [List.length_append, List.length_map] at this; omega
      refine sv (yAsg rfl) ?_
      refine nil ?_
      show Code.wp _ _ _ _ _
      refine seq ?_
      refine region ?_
      refine sv (yAsg rfl) ?_
      refine nil ?_
      show Code.wp _ _ _ _ _
      refine block ?_
      refine loop (fun f w zz => ∃ (k : Nat) (vs : List Value) (ov : Value), f 0 = .slice al l.length cl ∧ f 1 = .int .i64 (n : Int) ∧ f 5 = ov ∧ f 6 = .int .i64 (i : Int) ∧ f 7 = .slice ar (setsR (l.drop (i + 1)) m).length cr ∧ f 8 = .int .i64 (k : Int) ∧ StX [] w0 w [packI (inI vs (zs ++ ((setsR (l.drop (i + 1)) m).take k).map (a :: ·))), rowI (ov) 34 1 (zs ++ ((setsR (l.drop (i + 1)) m).take k).map (a :: ·)).length vs, packI (inI us (setsR (l.drop (i + 1)) m)), rowI (.slice ar (setsR (l.drop (i + 1)) m).length cr) 34 1 (setsR (l.drop (i + 1)) m).length us] ∧ (k ≤ (setsR (l.drop (i + 1)) m).length) ∧ (vs.length = (zs ++ ((setsR (l.drop (i + 1)) m).take k).map (a :: ·)).length) ∧ zz = (setsR (l.drop (i + 1)) m).length - k) _ ⟨_, rfl, 0, vs, _, h0, h1, h5, h6, rfl, rfl, (by rw [List.take_zero, List.map_nil, List.append_nil]; exact hS), (Nat.zero_le _), (by rw [List.take_zero, List.map_nil, List.append_nil]; exact hvl), rfl⟩ ?_
      clear hS
      rintro f w _ ⟨k, vs, ov, h0, h1, h5, h6, h7, h8, hS, hk, hvl, rfl⟩
      refine seq ?_
      refine seq ?_
      refine region ?_
      refine sv (yMove h8) ?_
      refine sv (yMove h7) ?_
      refine sv (yLen rfl Tryz.underlying24) ?_
      refine sv (yLss rfl rfl) ?_
      refine nil ?_
      show Code.wp _ _ _ _ _
      refine cond rfl (fun c28 => ?_) (fun c28 => ?_)
      ·
        simp only [Bool.and_eq_true, Bool.or_eq_true, Bool.and_eq_false_iff, Bool.or_eq_false_iff, decide_eq_true_eq, decide_eq_false_iff_not, Bool.not_eq_true, Bool.not_eq_false, Bool.not_not, Bool.not_eq_eq_eq_not, Bool.not_true, Bool.not_false, Bool.false_eq_true, Bool.true_eq_false, ne_eq, Decidable.not_not, not_false_eq_true, not_true_eq_false] at c28
        obtain ⟨z, hz, -⟩ := drop_of (l := (setsR (l.drop (i + 1)) m)) (k := k) (by omega)
        obtain ⟨u, hu⟩ : ∃ u, us[k]? = some u := ⟨_, List.getElem?_eq_getElem (by omega)⟩
        obtain ⟨ao, co, rfl⟩ := row_shape (hS.row ov)
        obtain ⟨gr, rfl, -⟩ := row_get (hS.row (.slice ar (setsR (l.drop (i + 1)) m).length cr)) (by omega)
        have hur : w.ownsRow 0 3 1 u z.length (z.flatMap Bx.encI) := hS.inpack (L := [_, _, _, _]) (M := inI us (setsR (l.drop (i + 1)) m)) (by simp) (inI_get hu hz)
        obtain ⟨au, cu, rfl⟩ := row_shape hur
        have hzz := setsR_len (List.mem_of_getElem? hz)
        rw [List.length_drop] at hzz
        have hzzl : (zs ++ ((setsR (l.drop (i + 1)) m).take k).map (a :: ·)).length = zs.length + k := by rw [List.length_append, List.length_map, List.length_take]; omega
        refine skip ?_
        show Code.wp _ _ _ _ _
        refine seq ?_
        refine block ?_
        refine region_mix (fun w => StX [] w0 w (packI (inI us (setsR (l.drop (i + 1)) m)) :: rowI (.slice (some ⟨gr, 0, none⟩) (setsR (l.drop (i + 1)) m).length cr) 34 1 (setsR (l.drop (i + 1)) m).length us :: [])) 14 mixed hS ?_
        clear hS; intro w hS
        refine f_step 0 (by kernel_rfl) rfl (fun c a a' w h => by obtain ⟨_, v, hv, _⟩ := h; cases hv) (by first | exact hS.sub (.cons _ (.cons _ (List.Sublist.refl _))) | exact hS.sub (.cons _ (.cons _ (.cons _ (List.Sublist.refl _)))) | exact hS.sub (.cons _ (.cons _ (.cons _ (.cons _ (List.Sublist.refl _))))) | exact hS.sub (.cons _ (.cons _ (.cons _ (.cons _ (.cons _ (List.Sublist.refl _))))))) (fun w hS => (yMove h5)) ?_
        refine f_step 1 (by kernel_rfl) rfl (fun c a a' w h => by obtain ⟨_, v, hv, _⟩ := h; cases hv) (by first | exact hS.sub (.cons _ (.cons _ (List.Sublist.refl _))) | exact hS.sub (.cons _ (.cons _ (.cons _ (List.Sublist.refl _)))) | exact hS.sub (.cons _ (.cons _ (.cons _ (.cons _ (List.Sublist.refl _))))) | exact hS.sub (.cons _ (.cons _ (.cons _ (.cons _ (.cons _ (List.Sublist.refl _))))))) (fun w hS => (yMove h0)) ?_
        refine f_step 2 (by kernel_rfl) rfl (fun c a a' w h => by obtain ⟨_, v, hv, _⟩ := h; cases hv) (by first | exact hS.sub (.cons _ (.cons _ (List.Sublist.refl _))) | exact hS.sub (.cons _ (.cons _ (.cons _ (List.Sublist.refl _)))) | exact hS.sub (.cons _ (.cons _ (.cons _ (.cons _ (List.Sublist.refl _))))) | exact hS.sub (.cons _ (.cons _ (.cons _ (.cons _ (.cons _ (List.Sublist.refl _))))))) (fun w hS => (yMove h6)) ?_
        refine f_step 3 (by kernel_rfl) rfl (fun c a a' w h => by obtain ⟨_, v, hv, _⟩ := h; cases hv) (by first | exact hS.sub (.cons _ (.cons _ (List.Sublist.refl _))) | exact hS.sub (.cons _ (.cons _ (.cons _ (List.Sublist.refl _)))) | exact hS.sub (.cons _ (.cons _ (.cons _ (.cons _ (List.Sublist.refl _))))) | exact hS.sub (.cons _ (.cons _ (.cons _ (.cons _ (.cons _ (List.Sublist.refl _))))))) (fun w hS => (yIxa rfl haa rfl Tryz.runUnderlying34 Tryz.sizeOf3 (by omega) (by omega))) ?_
        refine f_step 4 (by kernel_rfl) rfl (fun c a a' w h => by obtain ⟨_, v, hv, _⟩ := h; cases hv) (by first | exact hS.sub (.cons _ (.cons _ (List.Sublist.refl _))) | exact hS.sub (.cons _ (.cons _ (.cons _ (List.Sublist.refl _)))) | exact hS.sub (.cons _ (.cons _ (.cons _ (.cons _ (List.Sublist.refl _))))) | exact hS.sub (.cons _ (.cons _ (.cons _ (.cons _ (.cons _ (List.Sublist.refl _))))))) (fun w hS => (yLd rfl Tryz.isAgg3 ((hcsa.ext hS.ext).one))) ?_
        refine f_step 6 (by kernel_rfl) rfl (fun c a a' w h => by obtain ⟨_, v, hv, _⟩ := h; cases hv) (by first | exact hS.sub (.cons _ (.cons _ (List.Sublist.refl _))) | exact hS.sub (.cons _ (.cons _ (.cons _ (List.Sublist.refl _)))) | exact hS.sub (.cons _ (.cons _ (.cons _ (.cons _ (List.Sublist.refl _))))) | exact hS.sub (.cons _ (.cons _ (.cons _ (.cons _ (.cons _ (List.Sublist.refl _))))))) (fun w hS => (yMove h7)) ?_
        refine f_step 7 (by kernel_rfl) rfl (fun c a a' w h => by obtain ⟨_, v, hv, _⟩ := h; cases hv) (by first | exact hS.sub (.cons _ (.cons _ (List.Sublist.refl _))) | exact hS.sub (.cons _ (.cons _ (.cons _ (List.Sublist.refl _)))) | exact hS.sub (.cons _ (.cons _ (.cons _ (.cons _ (List.Sublist.refl _))))) | exact hS.sub (.cons _ (.cons _ (.cons _ (.cons _ (.cons _ (List.Sublist.refl _))))))) (fun w hS => (yMove h8)) ?_
        refine f_step 8 (by kernel_rfl) rfl (fun c a a' w h => by obtain ⟨_, v, hv, _⟩ := h; cases hv) (by first | exact hS.sub (.cons _ (.cons _ (List.Sublist.refl _))) | exact hS.sub (.cons _ (.cons _ (.cons _ (List.Sublist.refl _)))) | exact hS.sub (.cons _ (.cons _ (.cons _ (.cons _ (List.Sublist.refl _))))) | exact hS.sub (.cons _ (.cons _ (.cons _ (.cons _ (.cons _ (List.Sublist.refl _))))))) (fun w hS => (yIx0 (m := k) rfl rfl Tryz.runUnderlying24 Tryz.sizeOf34 (by omega))) ?_
        refine f_step 9 (by kernel_rfl) rfl (fun c a a' w h => by obtain ⟨_, v, hv, _⟩ := h; cases hv) (by first | exact hS.sub (.cons _ (.cons _ (List.Sublist.refl _))) | exact hS.sub (.cons _ (.cons _ (.cons _ (List.Sublist.refl _)))) | exact hS.sub (.cons _ (.cons _ (.cons _ (.cons _ (List.Sublist.refl _))))) | exact hS.sub (.cons _ (.cons _ (.cons _ (.cons _ (.cons _ (List.Sublist.refl _))))))) (fun w hS => (yLd rfl Tryz.isAgg34 (out_cell (row_at (hS.row (.slice (some ⟨gr, 0, none⟩) (setsR (l.drop (i + 1)) m).length cr)) rfl (by omega)) hu))) ?_
        show wpA _ _ _ _ _ _ _ _ _ _
        refine a_step (i := 5) (is := []) (by kernel_rfl) ⟨?_, trivial⟩
        refine ⟨_, rfl, ?_⟩
        refine sbslice hS Tryz.underlying34 Tryz.sizeOf3 rfl Tryz.zeroValue3 rfl (.cons rfl rfl .nil) rfl ?_; clear hS; intro b36 w hS
        refine nil ?_
        refine ⟨fun _ => (by first | exact hS.sub (.cons _ (.cons _ (List.Sublist.refl _))) | exact hS.sub (.cons _ (.cons _ (.cons _ (List.Sublist.refl _)))) | exact hS.sub (.cons _ (.cons _ (.cons _ (.cons _ (List.Sublist.refl _))))) | exact hS.sub (.cons _ (.cons _ (.cons _ (.cons _ (.cons _ (List.Sublist.refl _))))))), ?_⟩
        show wpA _ _ _ _ _ _ _ _ _ _
        show wpA _ _ _ _ _ _ _ _ _ _
        refine a_step (i := 10) (is := []) (by kernel_rfl) ⟨?_, trivial⟩
        refine ⟨_, rfl, ?_⟩
        replace hS : StX [] w0 w (blk b36 [.int .i64 a] 3 :: _) := hS
        replace hS := hS.toRow 1 1 (by simp) (by decide)
        refine sappS (bytes := 8) (size := 1) hS rfl rfl Tryz.underlying34 ti3 rfl rfl rfl rfl (by decide) Tryz.sizeOf3 (fun hh => by obtain ⟨bd, e1, e2⟩ := row_get (show w.ownsRow 0 3 1 (.slice au z.length cu) z.length (z.flatMap Bx.encI) from hS.inpack (by simp) (inI_get hu hz)) hh; exact ⟨bd, 0, e1, e2⟩) (by rw [flat_len encI_len]) (ints_one z) (by omega) (by omega) ?_; clear hS; intro v41 w hS; rw [Nat.add_comm 1 z.length] at hS
        obtain ⟨a41, c41, rfl⟩ := row_shape (hS.row v41)
        refine nil ?_
        refine ⟨fun _ => (by first | exact hS.sub (.cons _ (.cons _ (List.Sublist.refl _))) | exact hS.sub (.cons _ (.cons _ (.cons _ (List.Sublist.refl _)))) | exact hS.sub (.cons _ (.cons _ (.cons _ (.cons _ (List.Sublist.refl _))))) | exact hS.sub (.cons _ (.cons _ (.cons _ (.cons _ (.cons _ (List.Sublist.refl _))))))), ?_⟩
        show wpA _ _ _ _ _ _ _ _ _ _
        show wpA _ _ _ _ _ _ _ _ _ _
        refine a_step (i := 11) (is := []) (by kernel_rfl) ⟨?_, trivial⟩
        refine ⟨_, rfl, ?_⟩
        refine sbslice hS Tryz.underlying24 Tryz.sizeOf34 rfl Tryz.zeroValue34 rfl (.cons rfl rfl .nil) rfl ?_; clear hS; intro b42 w hS
        refine nil ?_
        refine ⟨fun _ => (by first | exact hS.sub (.cons _ (.cons _ (List.Sublist.refl _))) | exact hS.sub (.cons _ (.cons _ (.cons _ (List.Sublist.refl _)))) | exact hS.sub (.cons _ (.cons _ (.cons _ (.cons _ (List.Sublist.refl _))))) | exact hS.sub (.cons _ (.cons _ (.cons _ (.cons _ (.cons _ (List.Sublist.refl _))))))), ?_⟩
        show wpA _ _ _ _ _ _ _ _ _ _
        show wpA _ _ _ _ _ _ _ _ _ _
        refine a_step (i := 12) (is := []) (by kernel_rfl) ⟨?_, trivial⟩
        refine ⟨_, rfl, ?_⟩
        refine sapp (bytes := 24) (size := 1) (v := (.slice ao (zs ++ ((setsR (l.drop (i + 1)) m).take k).map (a :: ·)).length co)) (m := 1) hS rfl rfl Tryz.underlying24 ti34 rfl rfl rfl rfl (by decide) (blk_cells (hS.at _)) rfl rfl (by omega) (by omega) ?_; clear hS; intro v43 w hS
        refine nil ?_
        refine ⟨fun _ => (by first | exact hS.sub (.cons _ (.cons _ (List.Sublist.refl _))) | exact hS.sub (.cons _ (.cons _ (.cons _ (List.Sublist.refl _)))) | exact hS.sub (.cons _ (.cons _ (.cons _ (.cons _ (List.Sublist.refl _))))) | exact hS.sub (.cons _ (.cons _ (.cons _ (.cons _ (.cons _ (List.Sublist.refl _))))))), ?_⟩
        show wpA _ _ _ _ _ _ _ _ _ _
        refine f_step 13 (by kernel_rfl) rfl (fun c a a' w h => by obtain ⟨_, v, hv, _⟩ := h; cases hv) (by first | exact hS.sub (.cons _ (.cons _ (List.Sublist.refl _))) | exact hS.sub (.cons _ (.cons _ (.cons _ (List.Sublist.refl _)))) | exact hS.sub (.cons _ (.cons _ (.cons _ (.cons _ (List.Sublist.refl _))))) | exact hS.sub (.cons _ (.cons _ (.cons _ (.cons _ (.cons _ (List.Sublist.refl _))))))) (fun w hS => (yAsg rfl)) ?_
        refine a_end (by kernel_rfl) ?_
        show Code.wp _ _ _ _ _
        refine region ?_
        refine sv (yMove h8) ?_
        refine sv (yAdd rfl rfl ⟨by omega, by omega⟩) ?_
        refine sv (yAsg rfl) ?_
        refine nil ?_
        exact ⟨_, _, rfl, ⟨k + 1, vs ++ [.slice a41 (z.length + 1) c41], v43, h0, h1, rfl, h6, h7, rfl, (by rw [take_snoc hz, List.map_append, ← List.append_assoc]; show StX [] w0 w [packI (inI _ (_ ++ [a :: z])), rowI _ 34 1 (_ ++ [a :: z]).length _, packI (inI us (setsR (l.drop (i + 1)) m)), rowI _ _ _ _ _]; rw [inI_snoc hvl, List.length_append]; exact (hS.sub (.cons _ (List.Sublist.refl _))).packs), (by omega), (by rw [take_snoc hz, List.map_append, ← List.append_assoc, List.length_append, List.length_append, hvl]; rfl), rfl⟩, by omega⟩
      ·
        simp only [Bool.and_eq_true, Bool.or_eq_true, Bool.and_eq_false_iff, Bool.or_eq_false_iff, decide_eq_true_eq, decide_eq_false_iff_not, Bool.not_eq_true, Bool.not_eq_false, Bool.not_not, Bool.not_eq_eq_eq_not, Bool.not_true, Bool.not_false, Bool.false_eq_true, Bool.true_eq_false, ne_eq, Decidable.not_not, not_false_eq_true, not_true_eq_false] at c28
        obtain rfl : k = (setsR (l.drop (i + 1)) m).length := by omega
        rw [List.take_length] at hS hvl
        refine exit ?_
        show Code.wp _ _ _ _ _
        refine region ?_
        refine sv (yMove h6) ?_
        refine sv (yAdd rfl rfl ⟨by omega, by omega⟩) ?_
        refine sv (yAsg rfl) ?_
        refine nil ?_
        exact ⟨_, _, rfl, ⟨i + 1, zs ++ (setsR (l.drop (i + 1)) m).map (a :: ·), vs, _, h0, h1, h5, rfl, (hS.sub (.cons_cons _ (.cons_cons _ (List.nil_sublist _)))), (by omega), (hvl), (sets_step hxa hI), rfl⟩, by omega⟩
    ·
      simp only [Bool.and_eq_true, Bool.or_eq_true, Bool.and_eq_false_iff, Bool.or_eq_false_iff, decide_eq_true_eq, decide_eq_false_iff_not, Bool.not_eq_true, Bool.not_eq_false, Bool.not_not, Bool.not_eq_eq_eq_not, Bool.not_true, Bool.not_false, Bool.false_eq_true, Bool.true_eq_false, ne_eq, Decidable.not_not, not_false_eq_true, not_true_eq_false] at c15
      obtain rfl : i = l.length := by omega
      have hfin := sets_end hI
      refine exit ?_
      show Code.wp _ _ _ _ _
      refine seq ?_
      refine region ?_
      refine sv (yMove h5) ?_
      refine sv (yAsg rfl) ?_
      refine nil ?_
      show Code.wp _ _ _ _ _
      refine wp_ret ?_
      refine retQ (res1 rfl rfl) ?_
      subst hm
      rw [hfin]
      exact ⟨vs, hvl, hS⟩
theorem c_rsets : ∀ (n : Nat) (l : List Int) (v : Value) (w : World), Sl w 1 RInt v l → l.length ≤ 8 → n ≤ 1000 → CE Tryz.prog 94 #[v, .int .i64 (n : Int)] w (fun u w' => ∃ vs, vs.length = (setsR l n).length ∧ St w w' [packI (inI vs (setsR l n)), rowI u 34 1 (setsR l n).length vs])
  | 0, l, v, w, hl, hlen, hnn => c_rsets1 hl hlen hnn (fun m e => nomatch e)
  | n + 1, l, v, w, hl, hlen, hnn => c_rsets1 hl hlen hnn (fun m e l2 v2 w2 k1 k2 k3 => by cases e; exact c_rsets n l2 v2 w2 k1 k2 k3)
end Go.Proofs.YtmoilbakmlekbaaGreatDoor

/- part Aw46 -/
namespace Go.Proofs.YtmoilbakmlekbaaGreatDoor
open Go Bx
set_option maxHeartbeats 4000000 in
/-- barrage/barrageref11.Blocked -/
theorem c_rBlocked {t : Task} {hv nv fv : Value} {now : Int} {w0 : World} (h : RTask w0 [.int .i64 t.polders, hv, nv, fv] t) : CE Tryz.prog 40 #[.agg [.int .i64 t.polders, hv, nv, fv].toArray, .int .i64 now] w0 (fun u w' => ∃ lv, u = .tuple #[lv, .int .i64 (blkR t now).2] ∧ Sl w' 1 RInt lv (blkR t now).1 ∧ Ext w0 w') := by
  obtain ⟨hv', nv', fv', he0, hpol, hsh, hsn, hsf⟩ := id h
  obtain ⟨rfl, rfl, rfl⟩ : hv' = hv ∧ nv' = nv ∧ fv' = fv := by simpa [eq_comm] using he0
  obtain ⟨a1, cap1, rfl, hcap1, hmx1, hel1⟩ := id hsh
  obtain ⟨a2, cap2, rfl, hcap2, hmx2, hel2⟩ := id hsn
  obtain ⟨a3, cap3, rfl, hcap3, hmx3, hel3⟩ := id hsf
  refine enter Tryz.func40 rfl Tryz.ntmps40 rfl ?_
  have hS := St.start w0
  refine seq ?_
  refine region ?_
  refine sbox hS rfl rfl ?_; clear hS; intro b2 w hS
  refine sv (yAsg rfl) ?_
  refine sv (yAsg rfl) ?_
  refine nil ?_
  show Code.wp _ _ _ _ _
  refine seq ?_
  refine region ?_
  refine sv (yLdBA rfl Tryz.isAgg26 Tryz.sizeOf26 (hS.at _) rfl rfl) ?_
  refine scall Tryz.call77 (.cons rfl .nil) (c_rgood (h.ext hS.ext)) ?_
  rintro _ w ⟨rfl, hE⟩; replace hS := hS.step hE; clear hE
  refine sv (yAsg rfl) ?_
  refine nil ?_
  show Code.wp _ _ _ _ _
  refine seqJ (n := 53) (fun f w => f 1 = .int .i64 now ∧ f 2 = .pointer (some ⟨b2, 0, none⟩) ∧ f 6 = .int .i64 (atE t now) ∧ StX [] w0 w [blk b2 [.int .i64 t.polders, .slice a1 t.chans.length cap1, .slice a2 t.towns.length cap2, .slice a3 t.floods.length cap3] 26] ∧ True) ?_ ?_
  ·
    refine seq ?_
    refine region ?_
    refine sv (yMove rfl) ?_
    refine sv (yEql rfl rfl) ?_
    refine sv (yMove rfl) ?_
    refine sg rfl rfl rfl (fun g => (yMove rfl)) (fun v16 g16 => ?_)
    refine sgc hS rfl rfl rfl Tryz.call73 (fun g => (.cons (g16.1 g) .nil)) (fun g => c_rtick) ?_; clear hS; intro v17 w hS g17
    refine sg rfl rfl rfl (fun g => (yNot (g17.1 g))) (fun v18 g18 => ?_)
    refine sv (yAnd rfl (fun hB => (g18.1 hB)) rfl) ?_
    refine nil ?_
    show Code.wp _ _ _ _ _
    refine cond rfl (fun c19 => ?_) (fun c19 => ?_)
    ·
      refine region ?_
      refine sv (yAsg rfl) ?_
      refine nil ?_
      exact ⟨_, rfl, rfl, rfl, (rfl.trans (congrArg (Value.int .i64) ((atE_y c19).symm))), hS, trivial⟩
    ·
      refine skip ?_
      exact ⟨_, rfl, rfl, rfl, (rfl.trans (congrArg (Value.int .i64) ((atE_n c19).symm))), hS, trivial⟩
  ·
    clear hS; rintro f w ⟨h1, h2, h6, hS, -⟩
    refine seq ?_
    refine seq ?_
    refine region ?_
    refine sv (yMove h6) ?_
    refine sv (yNeq rfl rfl) ?_
    refine nil ?_
    show Code.wp _ _ _ _ _
    refine cond rfl (fun c21 => ?_) (fun c21 => ?_)
    ·
      simp only [Bool.and_eq_true, Bool.or_eq_true, Bool.and_eq_false_iff, Bool.or_eq_false_iff, decide_eq_true_eq, decide_eq_false_iff_not, Bool.not_eq_true, Bool.not_eq_false, Bool.not_not, Bool.not_eq_eq_eq_not, Bool.not_true, Bool.not_false, Bool.false_eq_true, Bool.true_eq_false, ne_eq, Decidable.not_not, not_false_eq_true, not_true_eq_false] at c21
      refine seq ?_
      refine region ?_
      refine sv (yMove h6) ?_
      refine sv (yAsg rfl) ?_
      refine sv (yAsg rfl) ?_
      refine nil ?_
      show Code.wp _ _ _ _ _
      refine wp_ret (thenR ?_)
      refine retQ (res2 rfl rfl rfl) ?_
      have hf : blkR t now = ([], atE t now) := if_pos c21
      rw [hf]
      exact ⟨_, rfl, Sl.nil, hS.ext⟩
    ·
      simp only [Bool.and_eq_true, Bool.or_eq_true, Bool.and_eq_false_iff, Bool.or_eq_false_iff, decide_eq_true_eq, decide_eq_false_iff_not, Bool.not_eq_true, Bool.not_eq_false, Bool.not_not, Bool.not_eq_eq_eq_not, Bool.not_true, Bool.not_false, Bool.false_eq_true, Bool.true_eq_false, ne_eq, Decidable.not_not, not_false_eq_true, not_true_eq_false] at c21
      obtain ⟨hok, hn⟩ := atE_ok c21
      have hn8 := hok.ntw
      have hwl := wetL_len t
      refine skip ?_
      show Code.wp _ _ _ _ _
      refine seq ?_
      refine region ?_
      refine sv (yLdBA h2 Tryz.isAgg26 Tryz.sizeOf26 (hS.at _) rfl rfl) ?_
      refine scall Tryz.call79 (.cons rfl .nil) (c_rwet (h.ext hS.ext) hok) ?_
      rintro tv w hM; replace hS := hS.call1 hM; clear hM
      obtain ⟨aw, cw, rfl⟩ := row_shape (hS.row tv)
      refine sv (yAsg rfl) ?_
      refine nil ?_
      show Code.wp _ _ _ _ _
      refine seq ?_
      refine seq ?_
      refine region ?_
      refine sv (yAsg rfl) ?_
      refine nil ?_
      show Code.wp _ _ _ _ _
      refine block ?_
      refine loop (fun f w zz => ∃ (b : Nat), f 1 = .int .i64 now ∧ f 2 = .pointer (some ⟨b2, 0, none⟩) ∧ f 7 = .slice aw (wetL t).length cw ∧ f 8 = .int .i64 ((b + 1 : Nat) : Int) ∧ StX [] w0 w [rowI (.slice aw (wetL t).length cw) 3 1 (wetL t).length ((wetL t).flatMap Bx.encI), blk b2 [.int .i64 t.polders, .slice a1 t.chans.length cap1, .slice a2 t.towns.length cap2, .slice a3 t.floods.length cap3] 26] ∧ (b ≤ (wetL t).length) ∧ (blkO t now = (sizeD (wetL t) b).find? (blkP t now)) ∧ zz = (wetL t).length - b) _ ⟨_, rfl, 0, h1, h2, rfl, (rfl.trans (congrArg (Value.int .i64) (by simp))), hS, (Nat.zero_le _), (blkO_size t now), rfl⟩ ?_
      clear hS
      rintro f w _ ⟨b, h1, h2, h7, h8, hS, hb, hI, rfl⟩
      refine seq ?_
      refine seq ?_
      refine region ?_
      refine sv (yMove h8) ?_
      refine sv (yMove h7) ?_
      refine sv (yLen rfl Tryz.underlying34) ?_
      refine sv (yLeq rfl rfl) ?_
      refine nil ?_
      show Code.wp _ _ _ _ _
      refine cond rfl (fun c28 => ?_) (fun c28 => ?_)
      ·
        simp only [Bool.and_eq_true, Bool.or_eq_true, Bool.and_eq_false_iff, Bool.or_eq_false_iff, decide_eq_true_eq, decide_eq_false_iff_not, Bool.not_eq_true, Bool.not_eq_false, Bool.not_not, Bool.not_eq_eq_eq_not, Bool.not_true, Bool.not_false, Bool.false_eq_true, Bool.true_eq_false, ne_eq, Decidable.not_not, not_false_eq_true, not_true_eq_false] at c28
        have hbl : b < (wetL t).length := by omega
        refine skip ?_
        show Code.wp _ _ _ _ _
        refine seq ?_
        refine block ?_
        refine seq ?_
        refine region ?_
        refine sv (yMove h7) ?_
        refine sv (yMove h8) ?_
        refine scall Tryz.call94 (.cons rfl (.cons rfl .nil)) (c_rsets (b + 1) (wetL t) _ _ (sl_ints (hS.row (.slice aw (wetL t).length cw)) rfl (fun x hx => by have := wet_mem hx; constructor <;> omega)) (by omega) (by omega)) ?_
        rintro rv w ⟨us, hul, hM⟩; replace hS := hS.call hM; clear hM
        replace hS : StX [] w0 w (packI (inI us (setsR (wetL t) (b + 1))) :: rowI rv 34 1 (setsR (wetL t) (b + 1)).length us :: rowI (.slice aw (wetL t).length cw) 3 1 (wetL t).length ((wetL t).flatMap Bx.encI) :: blk b2 [.int .i64 t.polders, .slice a1 t.chans.length cap1, .slice a2 t.towns.length cap2, .slice a3 t.floods.length cap3] 26 :: []) := hS
        obtain ⟨ar, cr, rfl⟩ := row_shape (hS.row rv)
        have hfw := sets_few (l := (wetL t)) (by omega) (b + 1)
        refine sv (yAsg rfl) ?_
        refine nil ?_
        show Code.wp _ _ _ _ _
        refine seq ?_
        refine region ?_
        refine sv (yAsg rfl) ?_
        refine nil ?_
        show Code.wp _ _ _ _ _
        refine block ?_
        refine loop (fun f w zz => ∃ (k : Nat), f 1 = .int .i64 now ∧ f 2 = .pointer (some ⟨b2, 0, none⟩) ∧ f 7 = .slice aw (wetL t).length cw ∧ f 8 = .int .i64 ((b + 1 : Nat) : Int) ∧ f 9 = .slice ar (setsR (wetL t) (b + 1)).length cr ∧ f 10 = .int .i64 (k : Int) ∧ StX [] w0 w [packI (inI us (setsR (wetL t) (b + 1))), rowI (.slice ar (setsR (wetL t) (b + 1)).length cr) 34 1 (setsR (wetL t) (b + 1)).length us, rowI (.slice aw (wetL t).length cw) 3 1 (wetL t).length ((wetL t).flatMap Bx.encI), blk b2 [.int .i64 t.polders, .slice a1 t.chans.length cap1, .slice a2 t.towns.length cap2, .slice a3 t.floods.length cap3] 26] ∧ (k ≤ (setsR (wetL t) (b + 1)).length) ∧ (blkO t now = ((setsR (wetL t) (b + 1)).drop k ++ sizeD (wetL t) (b + 1)).find? (blkP t now)) ∧ zz = (setsR (wetL t) (b + 1)).length - k) _ ⟨_, rfl, 0, h1, h2, h7, h8, rfl, rfl, hS, (Nat.zero_le _), (by rw [hI, sizeD_step hbl]; rfl), rfl⟩ ?_
        clear hS
        rintro f w _ ⟨k, h1, h2, h7, h8, h9, h10, hS, hk, hJ, rfl⟩
        refine seq ?_
        refine seq ?_
        refine region ?_
        refine sv (yMove h10) ?_
        refine sv (yMove h9) ?_
        refine sv (yLen rfl Tryz.underlying24) ?_
        refine sv (yLss rfl rfl) ?_
        refine nil ?_
        show Code.wp _ _ _ _ _
        refine cond rfl (fun c37 => ?_) (fun c37 => ?_)
        ·
          simp only [Bool.and_eq_true, Bool.or_eq_true, Bool.and_eq_false_iff, Bool.or_eq_false_iff, decide_eq_true_eq, decide_eq_false_iff_not, Bool.not_eq_true, Bool.not_eq_false, Bool.not_not, Bool.not_eq_eq_eq_not, Bool.not_true, Bool.not_false, Bool.false_eq_true, Bool.true_eq_false, ne_eq, Decidable.not_not, not_false_eq_true, not_true_eq_false] at c37
          obtain ⟨z, hz, -⟩ := drop_of (l := (setsR (wetL t) (b + 1))) (k := k) (by omega)
          obtain ⟨u, hu⟩ : ∃ u, us[k]? = some u := ⟨_, List.getElem?_eq_getElem (by omega)⟩
          obtain ⟨gr, rfl, -⟩ := row_get (hS.row (.slice ar (setsR (wetL t) (b + 1)).length cr)) (by omega)
          have hur : w.ownsRow 0 3 1 u z.length (z.flatMap Bx.encI) := hS.inpack (M := inI us (setsR (wetL t) (b + 1))) (by simp) (inI_get hu hz)
          obtain ⟨au, cu, rfl⟩ := row_shape hur
          have hzz := setsR_len (List.mem_of_getElem? hz)
          refine skip ?_
          show Code.wp _ _ _ _ _
          refine seq ?_
          refine block ?_
          refine seq ?_
          refine region_draw mixed (by kernel_rfl) hS ?_
          refine qv (fun w hS => (yLdBA h2 Tryz.isAgg26 Tryz.sizeOf26 (hS.at _) rfl rfl)) ?_
          refine qv (fun w hS => (yMove h1)) ?_
          refine qv (fun w hS => (yMove h9)) ?_
          refine qv (fun w hS => (yMove h10)) ?_
          refine qv (fun w hS => (yIx0 (m := k) rfl rfl Tryz.runUnderlying24 Tryz.sizeOf34 (by omega))) ?_
          refine qv (fun w hS => (yLd rfl Tryz.isAgg34 (out_cell (row_at (hS.row (.slice (some ⟨gr, 0, none⟩) (setsR (wetL t) (b + 1)).length cr)) rfl (by omega)) hu))) ?_
          refine qcall Tryz.call95 (.cons rfl (.cons rfl (.cons rfl .nil))) (fun w hS => (c_rslots (h.ext hS.ext) hok hn (sl_ints (show w.ownsRow 0 3 1 (.slice au z.length cu) z.length (z.flatMap Bx.encI) from hS.inpack (by simp) (inI_get hu hz)) rfl (fun x hx => by have := wet_mem (hzz.2.2 x hx); constructor <;> omega)) (fun x hx => wet_mem (hzz.2.2 x hx)))) ?_
          refine qv (fun w hS => (yMove h8)) ?_
          refine qv (fun w hS => (yLss rfl rfl)) ?_
          clear hS; refine qnil (fun w hS => ?_)
          show Code.wp _ _ _ _ _
          refine cond rfl (fun c48 => ?_) (fun c48 => ?_)
          ·
            simp only [Bool.and_eq_true, Bool.or_eq_true, Bool.and_eq_false_iff, Bool.or_eq_false_iff, decide_eq_true_eq, decide_eq_false_iff_not, Bool.not_eq_true, Bool.not_eq_false, Bool.not_not, Bool.not_eq_eq_eq_not, Bool.not_true, Bool.not_false, Bool.false_eq_true, Bool.true_eq_false, ne_eq, Decidable.not_not, not_false_eq_true, not_true_eq_false] at c48
            have hpz : blkP t now z = true := decide_eq_true (by omega)
            have hfin := find_hit hz hJ hpz
            refine seq ?_
            refine region ?_
            refine sv (yMove h9) ?_
            refine sv (yMove h10) ?_
            refine sv (yIx0 (m := k) rfl rfl Tryz.runUnderlying24 Tryz.sizeOf34 (by omega)) ?_
            refine sv (yLd rfl Tryz.isAgg34 (out_cell (row_at (hS.row (.slice (some ⟨gr, 0, none⟩) (setsR (wetL t) (b + 1)).length cr)) rfl (by omega)) hu)) ?_
            refine sv (yAsg rfl) ?_
            refine sv (yAsg rfl) ?_
            refine nil ?_
            show Code.wp _ _ _ _ _
            refine wp_ret (blockR (thenR (thenR (blockR (blockR (thenR (thenR (blockR (thenR ?_)))))))))
            refine retQ (res2 rfl rfl rfl) ?_
            rw [blkR_of c21 hfin]
            exact ⟨_, rfl, (sl_ints (show w.ownsRow 0 3 1 (.slice au z.length cu) z.length (z.flatMap Bx.encI) from hS.inpack (by simp) (inI_get hu hz)) rfl (fun x hx => by have := wet_mem (hzz.2.2 x hx); constructor <;> omega)), hS.ext⟩
          ·
            simp only [Bool.and_eq_true, Bool.or_eq_true, Bool.and_eq_false_iff, Bool.or_eq_false_iff, decide_eq_true_eq, decide_eq_false_iff_not, Bool.not_eq_true, Bool.not_eq_false, Bool.not_not, Bool.not_eq_eq_eq_not, Bool.not_true, Bool.not_false, Bool.false_eq_true, Bool.true_eq_false, ne_eq, Decidable.not_not, not_false_eq_true, not_true_eq_false] at c48
            have hpz : blkP t now z = false := decide_eq_false (by omega)
            refine skip ?_
            show Code.wp _ _ _ _ _
            refine region ?_
            refine sv (yMove h10) ?_
            refine sv (yAdd rfl rfl ⟨by omega, by omega⟩) ?_
            refine sv (yAsg rfl) ?_
            refine nil ?_
            exact ⟨_, _, rfl, ⟨k + 1, h1, h2, h7, h8, h9, rfl, hS, (by omega), (find_step hz hJ hpz), rfl⟩, by omega⟩
        ·
          simp only [Bool.and_eq_true, Bool.or_eq_true, Bool.and_eq_false_iff, Bool.or_eq_false_iff, decide_eq_true_eq, decide_eq_false_iff_not, Bool.not_eq_true, Bool.not_eq_false, Bool.not_not, Bool.not_eq_eq_eq_not, Bool.not_true, Bool.not_false, Bool.false_eq_true, Bool.true_eq_false, ne_eq, Decidable.not_not, not_false_eq_true, not_true_eq_false] at c37
          obtain rfl : k = (setsR (wetL t) (b + 1)).length := by omega
          refine exit ?_
          show Code.wp _ _ _ _ _
          refine region ?_
          refine sv (yMove h8) ?_
          refine sv (yAdd rfl rfl ⟨by omega, by omega⟩) ?_
          refine sv (yAsg rfl) ?_
          refine nil ?_
          exact ⟨_, _, rfl, ⟨b + 1, h1, h2, h7, (rfl.trans (congrArg (Value.int .i64) (by push_cast; omega))), (hS.sub (.cons _ (.cons _ (List.Sublist.refl _)))), (by omega), (by rw [hJ, List.drop_length, List.nil_append]), rfl⟩, by omega⟩
      ·
        simp only [Bool.and_eq_true, Bool.or_eq_true, Bool.and_eq_false_iff, Bool.or_eq_false_iff, decide_eq_true_eq, decide_eq_false_iff_not, Bool.not_eq_true, Bool.not_eq_false, Bool.not_not, Bool.not_eq_eq_eq_not, Bool.not_true, Bool.not_false, Bool.false_eq_true, Bool.true_eq_false, ne_eq, Decidable.not_not, not_false_eq_true, not_true_eq_false] at c28
        have hfin : blkO t now = none := by rw [hI, sizeD_end (by omega)]; rfl
        refine exit ?_
        show Code.wp _ _ _ _ _
        refine seq ?_
        refine region ?_
        refine sv (yAsg rfl) ?_
        refine sv (yAsg rfl) ?_
        refine nil ?_
        show Code.wp _ _ _ _ _
        refine wp_ret ?_
        refine retQ (res2 rfl rfl rfl) ?_
        rw [blkR_of c21 hfin]
        exact ⟨_, rfl, Sl.nil, hS.ext⟩
set_option maxHeartbeats 2000000 in
/-- barrage/barragelaw11.AlarmPlans -/
theorem w_AlarmPlans {t : Task} {cs : List Value} {now : Int} {w0 : World} (hg : Glb w0) (h : RTask w0 cs t) (_ : I64 now) : CV Tryz.prog 13 #[.agg cs.toArray, .int .i64 now] w0 (.bool true) := by
  obtain ⟨hv, nv, fv, rfl, hpol, hsh, hsn, hsf⟩ := id h
  obtain ⟨a1, cap1, rfl, hcap1, hmx1, hel1⟩ := id hsh
  obtain ⟨a2, cap2, rfl, hcap2, hmx2, hel2⟩ := id hsn
  obtain ⟨a3, cap3, rfl, hcap3, hmx3, hel3⟩ := id hsf
  refine enter Tryz.func13 rfl Tryz.ntmps13 rfl ?_
  have hS := St.start w0
  refine seq ?_
  refine region ?_
  refine sbox hS rfl rfl ?_; clear hS; intro b2 w hS
  refine sv (yAsg rfl) ?_
  refine nil ?_
  show Code.wp _ _ _ _ _
  refine seq ?_
  refine seq ?_
  refine region ?_
  refine sv (yLdBA rfl Tryz.isAgg26 Tryz.sizeOf26 (hS.at _) rfl rfl) ?_
  refine scall Tryz.call36 (.cons rfl .nil) (c_Many (h.ext hS.ext)) ?_
  rintro _ w ⟨rfl, hE⟩; replace hS := hS.step hE; clear hE
  refine nil ?_
  show Code.wp _ _ _ _ _
  refine cond rfl (fun c12 => ?_) (fun c12 => ?_)
  ·
    simp only [Bool.and_eq_true, Bool.or_eq_true, Bool.and_eq_false_iff, Bool.or_eq_false_iff, decide_eq_true_eq, decide_eq_false_iff_not, Bool.not_eq_true, Bool.not_eq_false, Bool.not_not, Bool.not_eq_eq_eq_not, Bool.not_true, Bool.not_false, Bool.false_eq_true, Bool.true_eq_false, ne_eq, Decidable.not_not, not_false_eq_true, not_true_eq_false] at c12
    refine seq ?_
    refine region ?_
    refine scall Tryz.call20 .nil (c_Awake (hg.ext hS.ext)) ?_
    rintro _ w ⟨rfl, hE⟩; replace hS := hS.step hE; clear hE
    refine sv (yAsg rfl) ?_
    refine nil ?_
    show Code.wp _ _ _ _ _
    refine wp_ret (thenR ?_)
    exact retV (res1 rfl rfl) hS.ext
  ·
    simp only [Bool.and_eq_true, Bool.or_eq_true, Bool.and_eq_false_iff, Bool.or_eq_false_iff, decide_eq_true_eq, decide_eq_false_iff_not, Bool.not_eq_true, Bool.not_eq_false, Bool.not_not, Bool.not_eq_eq_eq_not, Bool.not_true, Bool.not_false, Bool.false_eq_true, Bool.true_eq_false, ne_eq, Decidable.not_not, not_false_eq_true, not_true_eq_false] at c12
    refine skip ?_
    show Code.wp _ _ _ _ _
    refine seq ?_
    refine region ?_
    refine sv (yLdBA rfl Tryz.isAgg26 Tryz.sizeOf26 (hS.at _) rfl rfl) ?_
    refine sv (yMove rfl) ?_
    refine scall Tryz.call18 (.cons rfl (.cons rfl .nil)) (c_Plan (hg.ext hS.ext) (h.ext hS.ext)) ?_
    rintro _ w ⟨pv, rfl, hM⟩; replace hS := hS.call1 hM; clear hM
    refine sv (yMove rfl) ?_
    refine sv (yExt rfl rfl) ?_
    refine sv (yExt rfl rfl) ?_
    refine sv (yAsg rfl) ?_
    refine sv (yAsg rfl) ?_
    refine nil ?_
    show Code.wp _ _ _ _ _
    refine seq ?_
    refine region ?_
    refine sv (yLdBA rfl Tryz.isAgg26 Tryz.sizeOf26 (hS.at _) rfl rfl) ?_
    refine sv (yMove rfl) ?_
    refine scall Tryz.call37 (.cons rfl (.cons rfl .nil)) (c_rPlan (h.ext hS.ext)) ?_
    rintro _ w ⟨qv, rfl, hKqv, hE⟩; replace hS := hS.step hE; clear hE
    refine sv (yMove rfl) ?_
    refine sv (yExt rfl rfl) ?_
    refine sv (yExt rfl rfl) ?_
    refine sv (yAsg rfl) ?_
    refine sv (yAsg rfl) ?_
    refine nil ?_
    show Code.wp _ _ _ _ _
    refine seq ?_
    refine seq ?_
    refine region ?_
    refine sv (yMove rfl) ?_
    refine sv (yMove rfl) ?_
    refine scall Tryz.call38 (.cons rfl (.cons rfl .nil)) (c_Slots (sl_slots (hS.row pv) rfl (planR_i64 t now)) hKqv) ?_
    rintro _ w ⟨rfl, hE⟩; replace hS := hS.step hE; clear hE
    refine sv (yNot rfl) ?_
    refine sv (yMove rfl) ?_
    refine sg rfl rfl rfl (fun g => (yMove rfl)) (fun v31 g31 => ?_)
    refine sg rfl rfl rfl (fun g => (yMove rfl)) (fun v32 g32 => ?_)
    refine sg rfl rfl rfl (fun g => (yNeq (g31.1 g) (g32.1 g))) (fun v33 g33 => ?_)
    refine sv (yOr rfl rfl (fun hB => (g33.1 hB))) ?_
    refine nil ?_
    show Code.wp _ _ _ _ _
    refine cond rfl (fun c34 => ?_) (fun c34 => ?_)
    ·
      exact absurd c34 (by simp)
    ·
      refine skip ?_
      show Code.wp _ _ _ _ _
      refine seq ?_
      refine region ?_
      refine sv (yLdBA rfl Tryz.isAgg26 Tryz.sizeOf26 (hS.at _) rfl rfl) ?_
      refine sv (yMove rfl) ?_
      refine scall Tryz.call39 (.cons rfl (.cons rfl .nil)) (c_Blocked (hg.ext hS.ext) (h.ext hS.ext)) ?_
      rintro _ w ⟨bv, rfl, hKbv, hE⟩; replace hS := hS.step hE; clear hE
      refine sv (yMove rfl) ?_
      refine sv (yExt rfl rfl) ?_
      refine sv (yExt rfl rfl) ?_
      refine sv (yAsg rfl) ?_
      refine sv (yAsg rfl) ?_
      refine nil ?_
      show Code.wp _ _ _ _ _
      refine seq ?_
      refine region ?_
      refine sv (yLdBA rfl Tryz.isAgg26 Tryz.sizeOf26 (hS.at _) rfl rfl) ?_
      refine sv (yMove rfl) ?_
      refine scall Tryz.call40 (.cons rfl (.cons rfl .nil)) (c_rBlocked (h.ext hS.ext)) ?_
      rintro _ w ⟨dv, rfl, hKdv, hE⟩; replace hKbv := hKbv.ext RInt.stays hE; replace hS := hS.step hE; clear hE
      refine sv (yMove rfl) ?_
      refine sv (yExt rfl rfl) ?_
      refine sv (yExt rfl rfl) ?_
      refine sv (yAsg rfl) ?_
      refine sv (yAsg rfl) ?_
      refine nil ?_
      show Code.wp _ _ _ _ _
      refine seq ?_
      refine region ?_
      refine sv (yMove rfl) ?_
      refine sv (yMove rfl) ?_
      refine scall Tryz.call41 (.cons rfl (.cons rfl .nil)) (c_Ints hKbv hKdv) ?_
      rintro _ w ⟨rfl, hE⟩; replace hS := hS.step hE; clear hE
      refine sv (yMove rfl) ?_
      refine sg rfl rfl rfl (fun g => (yMove rfl)) (fun v51 g51 => ?_)
      refine sg rfl rfl rfl (fun g => (yMove rfl)) (fun v52 g52 => ?_)
      refine sg rfl rfl rfl (fun g => (yEql (g51.1 g) (g52.1 g))) (fun v53 g53 => ?_)
      refine sv (yAnd rfl (fun hB => (g53.1 hB)) rfl) ?_
      refine sv (yMove rfl) ?_
      refine sgc hS rfl rfl rfl Tryz.call20 (fun g => .nil) (fun g => (c_Awake (hg.ext hS.ext))) ?_; clear hS; intro v56 w hS g56
      refine sv (yAnd rfl (fun hB => (g56.1 hB)) rfl) ?_
      refine sv (yAsg rfl) ?_
      refine nil ?_
      show Code.wp _ _ _ _ _
      refine wp_ret ?_
      exact retV (res1 rfl (eqB (by simp))) hS.ext
end Go.Proofs.YtmoilbakmlekbaaGreatDoor

/- part RdF -/
namespace Go.Proofs.YtmoilbakmlekbaaGreatDoor
open Go Bx
section
variable {H : Type} {enc : TypeId × Value → H} {w : World} {base : Nat} {spare : Nat → Bool} {held : Bool} {fuel : Nat} {cs : List Value} {x : DataW H × List MemPlace}
theorem rdF26 (h : DataW.trod enc Tryz.prog w base spare held fuel 26 cs = some x) (hW : WOk Tryz.prog 26 x.1) : ∃ n c0 c1 c2 c3, cs = [c0, c1, c2, c3] ∧ (∃ y, DataW.trod enc Tryz.prog w base spare held n 3 [c0] = some y ∧ WOk Tryz.prog 3 y.1) ∧ (∃ y, DataW.trod enc Tryz.prog w base spare held n 22 [c1] = some y ∧ WOk Tryz.prog 22 y.1) ∧ (∃ y, DataW.trod enc Tryz.prog w base spare held n 23 [c2] = some y ∧ WOk Tryz.prog 23 y.1) ∧ (∃ y, DataW.trod enc Tryz.prog w base spare held n 24 [c3] = some y ∧ WOk Tryz.prog 24 y.1) := by
  have z3 : Tryz.prog.cellsOf 3 = 1 := by kernel_rfl
  have z22 : Tryz.prog.cellsOf 22 = 1 := by kernel_rfl
  have z23 : Tryz.prog.cellsOf 23 = 1 := by kernel_rfl
  have z24 : Tryz.prog.cellsOf 24 = 1 := by kernel_rfl
  obtain ⟨hl, n, hf⟩ := rdw_fields Tryz.underlying26 h hW
  have hz : Tryz.prog.cellsOf 26 = 4 := by kernel_rfl
  rw [hz] at hl
  obtain ⟨c0, c1, c2, c3, rfl⟩ := four_of hl
  have f0 : ∃ y, DataW.trod enc Tryz.prog w base spare held n 3 ((List.drop 0 [c0, c1, c2, c3]).take (Tryz.prog.cellsOf 3)) = some y ∧ WOk Tryz.prog 3 y.1 := hf 0 _ rfl
  rw [z3] at f0
  have f1 : ∃ y, DataW.trod enc Tryz.prog w base spare held n 22 ((List.drop 1 [c0, c1, c2, c3]).take (Tryz.prog.cellsOf 22)) = some y ∧ WOk Tryz.prog 22 y.1 := hf 1 _ rfl
  rw [z22] at f1
  have f2 : ∃ y, DataW.trod enc Tryz.prog w base spare held n 23 ((List.drop 2 [c0, c1, c2, c3]).take (Tryz.prog.cellsOf 23)) = some y ∧ WOk Tryz.prog 23 y.1 := hf 2 _ rfl
  rw [z23] at f2
  have f3 : ∃ y, DataW.trod enc Tryz.prog w base spare held n 24 ((List.drop 3 [c0, c1, c2, c3]).take (Tryz.prog.cellsOf 24)) = some y ∧ WOk Tryz.prog 24 y.1 := hf 3 _ rfl
  rw [z24] at f3
  exact ⟨n, c0, c1, c2, c3, rfl, f0, f1, f2, f3⟩
theorem rdF36 (h : DataW.trod enc Tryz.prog w base spare held fuel 36 cs = some x) (hW : WOk Tryz.prog 36 x.1) : ∃ n c0 c1 c2 c3 c4, cs = [c0, c1, c2, c3, c4] ∧ (∃ y, DataW.trod enc Tryz.prog w base spare held n 9 [c0] = some y ∧ WOk Tryz.prog 9 y.1) ∧ (∃ y, DataW.trod enc Tryz.prog w base spare held n 3 [c1] = some y ∧ WOk Tryz.prog 3 y.1) ∧ (∃ y, DataW.trod enc Tryz.prog w base spare held n 3 [c2] = some y ∧ WOk Tryz.prog 3 y.1) ∧ (∃ y, DataW.trod enc Tryz.prog w base spare held n 3 [c3] = some y ∧ WOk Tryz.prog 3 y.1) ∧ (∃ y, DataW.trod enc Tryz.prog w base spare held n 34 [c4] = some y ∧ WOk Tryz.prog 34 y.1) := by
  have z3 : Tryz.prog.cellsOf 3 = 1 := by kernel_rfl
  have z9 : Tryz.prog.cellsOf 9 = 1 := by kernel_rfl
  have z34 : Tryz.prog.cellsOf 34 = 1 := by kernel_rfl
  obtain ⟨hl, n, hf⟩ := rdw_fields Tryz.underlying36 h hW
  have hz : Tryz.prog.cellsOf 36 = 5 := by kernel_rfl
  rw [hz] at hl
  obtain ⟨c0, c1, c2, c3, c4, rfl⟩ := five_of hl
  have f0 : ∃ y, DataW.trod enc Tryz.prog w base spare held n 9 ((List.drop 0 [c0, c1, c2, c3, c4]).take (Tryz.prog.cellsOf 9)) = some y ∧ WOk Tryz.prog 9 y.1 := hf 0 _ rfl
  rw [z9] at f0
  have f1 : ∃ y, DataW.trod enc Tryz.prog w base spare held n 3 ((List.drop 1 [c0, c1, c2, c3, c4]).take (Tryz.prog.cellsOf 3)) = some y ∧ WOk Tryz.prog 3 y.1 := hf 1 _ rfl
  rw [z3] at f1
  have f2 : ∃ y, DataW.trod enc Tryz.prog w base spare held n 3 ((List.drop 2 [c0, c1, c2, c3, c4]).take (Tryz.prog.cellsOf 3)) = some y ∧ WOk Tryz.prog 3 y.1 := hf 2 _ rfl
  rw [z3] at f2
  have f3 : ∃ y, DataW.trod enc Tryz.prog w base spare held n 3 ((List.drop 3 [c0, c1, c2, c3, c4]).take (Tryz.prog.cellsOf 3)) = some y ∧ WOk Tryz.prog 3 y.1 := hf 3 _ rfl
  rw [z3] at f3
  have f4 : ∃ y, DataW.trod enc Tryz.prog w base spare held n 34 ((List.drop 4 [c0, c1, c2, c3, c4]).take (Tryz.prog.cellsOf 34)) = some y ∧ WOk Tryz.prog 34 y.1 := hf 4 _ rfl
  rw [z34] at f4
  exact ⟨n, c0, c1, c2, c3, c4, rfl, f0, f1, f2, f3, f4⟩
theorem rdF41 (h : DataW.trod enc Tryz.prog w base spare held fuel 41 cs = some x) (hW : WOk Tryz.prog 41 x.1) : ∃ n c0 c1 c2, cs = [c0, c1, c2] ∧ (∃ y, DataW.trod enc Tryz.prog w base spare held n 9 [c0] = some y ∧ WOk Tryz.prog 9 y.1) ∧ (∃ y, DataW.trod enc Tryz.prog w base spare held n 3 [c1] = some y ∧ WOk Tryz.prog 3 y.1) ∧ (∃ y, DataW.trod enc Tryz.prog w base spare held n 3 [c2] = some y ∧ WOk Tryz.prog 3 y.1) := by
  have z3 : Tryz.prog.cellsOf 3 = 1 := by kernel_rfl
  have z9 : Tryz.prog.cellsOf 9 = 1 := by kernel_rfl
  obtain ⟨hl, n, hf⟩ := rdw_fields Tryz.underlying41 h hW
  have hz : Tryz.prog.cellsOf 41 = 3 := by kernel_rfl
  rw [hz] at hl
  obtain ⟨c0, c1, c2, rfl⟩ := three_of hl
  have f0 : ∃ y, DataW.trod enc Tryz.prog w base spare held n 9 ((List.drop 0 [c0, c1, c2]).take (Tryz.prog.cellsOf 9)) = some y ∧ WOk Tryz.prog 9 y.1 := hf 0 _ rfl
  rw [z9] at f0
  have f1 : ∃ y, DataW.trod enc Tryz.prog w base spare held n 3 ((List.drop 1 [c0, c1, c2]).take (Tryz.prog.cellsOf 3)) = some y ∧ WOk Tryz.prog 3 y.1 := hf 1 _ rfl
  rw [z3] at f1
  have f2 : ∃ y, DataW.trod enc Tryz.prog w base spare held n 3 ((List.drop 2 [c0, c1, c2]).take (Tryz.prog.cellsOf 3)) = some y ∧ WOk Tryz.prog 3 y.1 := hf 2 _ rfl
  rw [z3] at f2
  exact ⟨n, c0, c1, c2, rfl, f0, f1, f2⟩
end
end Go.Proofs.YtmoilbakmlekbaaGreatDoor

/- part Rd1 -/
namespace Go.Proofs.YtmoilbakmlekbaaGreatDoor
open Go Bx
theorem rd_Ints : RdW Tryz.prog 34 (fun w cs (l : List Int) => ∃ v, cs = [v] ∧ Sl w 1 RInt v l ∧ l.length * 8 ≤ 140737488351232) := rdw_slice (Rd.w (rd_int Tryz.underlying3)) (by kernel_rfl) (by decide) Tryz.underlying34 (by kernel_rfl)
theorem rd_Row : RdW Tryz.prog 34 RRow := fun H enc w base spare held fuel cs x h hW => by obtain ⟨a, v, e, i, -⟩ := rd_Ints H enc w base spare held fuel cs x h hW; exact ⟨a, v, e, i⟩
theorem rd_Rows : RdW Tryz.prog 24 (fun w cs (l : List (List Int)) => ∃ v, cs = [v] ∧ Sl w 1 RRow v l ∧ l.length * 24 ≤ 140737488351232) := rdw_slice rd_Row (by kernel_rfl) (by decide) Tryz.underlying24 (by kernel_rfl)
theorem rd_Chan : RdW Tryz.prog 41 RChan := by
  intro H enc w base spare held fuel cs x h hW
  obtain ⟨n, c0, c1, c2, rfl, ⟨y0, f0, k0⟩, ⟨y1, f1, k1⟩, ⟨y2, f2, k2⟩⟩ := rdF41 h hW
  obtain ⟨a0, g0⟩ := (Rd.w (rd_str Tryz.underlying9)) _ _ _ _ _ _ _ _ _ f0 k0
  obtain ⟨a1, g1⟩ := (Rd.w (rd_int Tryz.underlying3)) _ _ _ _ _ _ _ _ _ f1 k1
  obtain ⟨a2, g2⟩ := (Rd.w (rd_int Tryz.underlying3)) _ _ _ _ _ _ _ _ _ f2 k2
  obtain ⟨e0, i0⟩ := g0; obtain ⟨e1, i1⟩ := g1; obtain ⟨e2, i2⟩ := g2; cases e0; cases e1; cases e2; exact ⟨⟨a0, a1, a2⟩, rfl, i0, i1, i2⟩
theorem rd_Chans : RdW Tryz.prog 22 (fun w cs (l : List Chan) => ∃ v, cs = [v] ∧ Sl w 3 RChan v l ∧ l.length * 32 ≤ 140737488351232) := rdw_slice rd_Chan (by kernel_rfl) (by decide) Tryz.underlying22 (by kernel_rfl)
theorem rd_Town : RdW Tryz.prog 36 RTown := by
  intro H enc w base spare held fuel cs x h hW
  obtain ⟨n, c0, c1, c2, c3, c4, rfl, ⟨y0, f0, k0⟩, ⟨y1, f1, k1⟩, ⟨y2, f2, k2⟩, ⟨y3, f3, k3⟩, ⟨y4, f4, k4⟩⟩ := rdF36 h hW
  obtain ⟨a0, g0⟩ := (Rd.w (rd_str Tryz.underlying9)) _ _ _ _ _ _ _ _ _ f0 k0
  obtain ⟨a1, g1⟩ := (Rd.w (rd_int Tryz.underlying3)) _ _ _ _ _ _ _ _ _ f1 k1
  obtain ⟨a2, g2⟩ := (Rd.w (rd_int Tryz.underlying3)) _ _ _ _ _ _ _ _ _ f2 k2
  obtain ⟨a3, g3⟩ := (Rd.w (rd_int Tryz.underlying3)) _ _ _ _ _ _ _ _ _ f3 k3
  obtain ⟨a4, g4⟩ := rd_Ints _ _ _ _ _ _ _ _ _ f4 k4
  obtain ⟨e0, i0⟩ := g0; obtain ⟨e1, i1⟩ := g1; obtain ⟨e2, i2⟩ := g2; obtain ⟨e3, i3⟩ := g3; obtain ⟨v4, e4, i4, r4⟩ := g4; cases e0; cases e1; cases e2; cases e3; cases e4; exact ⟨⟨a0, a1, a2, a3, a4⟩, _, rfl, i0, i1, i2, i3, i4, r4⟩
theorem rd_Towns : RdW Tryz.prog 23 (fun w cs (l : List Town) => ∃ v, cs = [v] ∧ Sl w 5 RTown v l ∧ l.length * 64 ≤ 140737488351232) := rdw_slice rd_Town (by kernel_rfl) (by decide) Tryz.underlying23 (by kernel_rfl)
theorem rd_Task : RdW Tryz.prog 26 RTask := by
  intro H enc w base spare held fuel cs x h hW
  obtain ⟨n, c0, c1, c2, c3, rfl, ⟨y0, f0, k0⟩, ⟨y1, f1, k1⟩, ⟨y2, f2, k2⟩, ⟨y3, f3, k3⟩⟩ := rdF26 h hW
  obtain ⟨a0, g0⟩ := (Rd.w (rd_int Tryz.underlying3)) _ _ _ _ _ _ _ _ _ f0 k0
  obtain ⟨a1, g1⟩ := rd_Chans _ _ _ _ _ _ _ _ _ f1 k1
  obtain ⟨a2, g2⟩ := rd_Towns _ _ _ _ _ _ _ _ _ f2 k2
  obtain ⟨a3, g3⟩ := rd_Rows _ _ _ _ _ _ _ _ _ f3 k3
  obtain ⟨e0, i0⟩ := g0; obtain ⟨v1, e1, i1, r1⟩ := g1; obtain ⟨v2, e2, i2, r2⟩ := g2; obtain ⟨v3, e3, i3, r3⟩ := g3; cases e0; cases e1; cases e2; cases e3; exact ⟨⟨a0, a1, a2, a3⟩, _, _, _, rfl, i0, i1, i2, i3⟩
end Go.Proofs.YtmoilbakmlekbaaGreatDoor

/- part Laid -/
namespace Go.Proofs.YtmoilbakmlekbaaGreatDoor
open Go Bx Go.ChangeShapes Go.WideShapes Go.RowKit
theorem laidEt : Tryz.prog.globalNamed "errors.errorType" = some 0 := by kernel_rfl
theorem laidRt : (Tryz.prog.cutTypes.find? (·.1 == "internal/reflectlite.rtype")).map (·.2) = some 217 := by kernel_rfl
theorem laidOne : ((List.range 309).filter fun t => Tryz.prog.rowNamed t [101, 114, 114, 111, 114]) = [120] := by kernel_rfl
theorem laidSize : Tryz.prog.types.size = 309 := by kernel_rfl
theorem glb_of_laid {W : World} (h : laidMetH Tryz.prog [("errors.errorType", Rows.laid_errors_errorType)] W) : Glb W := by
  have h' : laidMet Tryz.prog [] W ∧ handlesMet Tryz.prog [("errors.errorType", Rows.laid_errors_errorType)] W := h
  obtain ⟨name, u, ty, e1, e2, e3, e4, e5⟩ := h'.2 _ (List.mem_singleton.2 rfl)
  have en : name = [101, 114, 114, 111, 114] := (Option.some.inj e1).symm
  subst en
  obtain rfl := Option.some.inj (laidRt.symm.trans e2)
  have hm : ty ∈ (List.range 309).filter fun t => Tryz.prog.rowNamed t [101, 114, 114, 111, 114] := List.mem_filter.2 ⟨List.mem_range.2 (by rw [← laidSize]; exact e3), e4⟩
  rw [laidOne] at hm
  obtain rfl := List.mem_singleton.1 hm
  have hh : typeHandle Tryz.prog 120 = .pointer (some ⟨1, 120, none⟩) := by kernel_rfl
  rw [hh] at e5
  simpa [Glb] using World.var?_cell laidEt e5 0
noncomputable def laidWorld (os : Os) : World :=
  let w0 := World.holding Tryz.prog os ⟨#[], #[], []⟩
  { w0 with heap := w0.heap.modify 0 fun
      | .cells _ t frozen => .cells #[.iface 217 (.agg #[.pointer (some ⟨1, 120, none⟩)])] t frozen
      | o => o }
theorem laidWorld_met (os : Os) (args : Array Value) : laidMetH Tryz.prog [("errors.errorType", Rows.laid_errors_errorType)] ((laidWorld os).forCall (fun _ _ => 0) ⟨#[], args, []⟩).memory :=
  laidMetH_of_parts (laidMet_nil _ _) (by kernel_rfl)
end Go.Proofs.YtmoilbakmlekbaaGreatDoor

