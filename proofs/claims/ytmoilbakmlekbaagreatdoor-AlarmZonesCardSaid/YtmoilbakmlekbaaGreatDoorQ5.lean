/- Merged texts, part 5. -/
import Derived.Test.YtmoilbakmlekbaaGreatDoorQ4
import Derived.Test.YtmoilbakmlekbaaGreatDoorProg
import Derived.Test.YtmoilbakmlekbaaGreatDoorRows
import Derived.ChangeSame
import Derived.ChangeVars
import Derived.JoinedOf
import Derived.RowKit
import Derived.RowKitTokens
import Derived.LaidLaws
import Derived.LaidHandle
import Derived.Stop.Joined
set_option linter.all false
/- part Aw29 -/
namespace Go.Proofs.YtmoilbakmlekbaaGreatDoor
open Go Bx
set_option maxHeartbeats 2000000 in
/-- barrage/barrageref11.Check -/
theorem c_rCheck {t : Task} {hv nv fv : Value} {w0 : World} (h : RTask w0 [.int .i64 t.polders, hv, nv, fv] t) : CV Tryz.prog 22 #[.agg [.int .i64 t.polders, hv, nv, fv].toArray] w0 (.tuple #[.int .i64 (checkA t).1, .int .i64 (checkA t).2.1, .int .i64 (checkA t).2.2]) := by
  obtain ⟨hv', nv', fv', he0, hpol, hsh, hsn, hsf⟩ := id h
  obtain ⟨rfl, rfl, rfl⟩ : hv' = hv ∧ nv' = nv ∧ fv' = fv := by simpa [eq_comm] using he0
  obtain ⟨a1, cap1, rfl, hcap1, hmx1, hel1⟩ := id hsh
  obtain ⟨a2, cap2, rfl, hcap2, hmx2, hel2⟩ := id hsn
  obtain ⟨a3, cap3, rfl, hcap3, hmx3, hel3⟩ := id hsf
  refine enter Tryz.func22 rfl Tryz.ntmps22 rfl ?_
  have hS := St.start w0
  refine seq ?_
  refine region ?_
  refine sbox hS rfl rfl ?_; clear hS; intro b1 w hS
  refine sv (yAsg rfl) ?_
  refine sv (yAsg rfl) ?_
  refine sv (yAsg rfl) ?_
  refine nil ?_
  show Code.wp _ _ _ _ _
  refine seq ?_
  refine seq ?_
  refine region ?_
  refine sv (fa26_0 rfl) ?_
  refine sv (yLdB rfl Tryz.isAgg3 (hS.at _) rfl) ?_
  refine scall Tryz.call66 (.cons rfl (.cons rfl (.cons rfl .nil))) c_rin ?_
  rintro _ w ⟨rfl, hE⟩; replace hS := hS.step hE; clear hE
  refine sv (yNot rfl) ?_
  refine nil ?_
  show Code.wp _ _ _ _ _
  refine cond rfl (fun c14 => ?_) (fun c14 => ?_)
  ·
    have h14 : outB t.polders 0 6 = true := by rw [← inB_not]; exact c14
    refine seq ?_
    refine region ?_
    refine sv (yAsg rfl) ?_
    refine sv (yAsg rfl) ?_
    refine sv (yAsg rfl) ?_
    refine nil ?_
    show Code.wp _ _ _ _ _
    have hfin : checkA t = (1, 0, 7) := by unfold checkA; rw [if_pos h14]
    refine wp_ret (thenR ?_)
    exact retV (res3 rfl (fstI hfin) (thd1I hfin) (thd2I hfin)) hS.ext
  ·
    have h14 : outB t.polders 0 6 = false := by rw [← inB_not]; exact c14
    have hp := outB_false.1 h14
    refine skip ?_
    show Code.wp _ _ _ _ _
    refine seq ?_
    refine seq ?_
    refine region ?_
    refine sv (fa26_1 rfl) ?_
    refine sv (yLdB rfl Tryz.isAgg22 (hS.at _) rfl) ?_
    refine sv (yLen rfl Tryz.underlying22) ?_
    refine sv (yGtr rfl rfl) ?_
    refine nil ?_
    show Code.wp _ _ _ _ _
    refine cond rfl (fun c18 => ?_) (fun c18 => ?_)
    ·
      simp only [Bool.and_eq_true, Bool.or_eq_true, Bool.and_eq_false_iff, Bool.or_eq_false_iff, decide_eq_true_eq, decide_eq_false_iff_not, Bool.not_eq_true, Bool.not_eq_false, Bool.not_not, Bool.not_eq_eq_eq_not, Bool.not_true, Bool.not_false, Bool.false_eq_true, Bool.true_eq_false, ne_eq, Decidable.not_not, not_false_eq_true, not_true_eq_false] at c18
      refine seq ?_
      refine region ?_
      refine sv (yAsg rfl) ?_
      refine sv (yAsg rfl) ?_
      refine sv (yAsg rfl) ?_
      refine nil ?_
      show Code.wp _ _ _ _ _
      have hfin : checkA t = (2, 0, 3) := by unfold checkA; rw [if_neg (by rw [h14]; decide), if_pos c18]
      refine wp_ret (thenR ?_)
      exact retV (res3 rfl (fstI hfin) (thd1I hfin) (thd2I hfin)) hS.ext
    ·
      simp only [Bool.and_eq_true, Bool.or_eq_true, Bool.and_eq_false_iff, Bool.or_eq_false_iff, decide_eq_true_eq, decide_eq_false_iff_not, Bool.not_eq_true, Bool.not_eq_false, Bool.not_not, Bool.not_eq_eq_eq_not, Bool.not_true, Bool.not_false, Bool.false_eq_true, Bool.true_eq_false, ne_eq, Decidable.not_not, not_false_eq_true, not_true_eq_false] at c18
      refine skip ?_
      show Code.wp _ _ _ _ _
      refine seq ?_
      refine seq ?_
      refine region ?_
      refine sv (yAsg rfl) ?_
      refine nil ?_
      show Code.wp _ _ _ _ _
      refine block ?_
      refine loop (fun f w zz => ∃ (k : Nat), f 1 = .pointer (some ⟨b1, 0, none⟩) ∧ f 5 = .int .i64 (k : Int) ∧ StX [] w0 w [blk b1 [.int .i64 t.polders, .slice a1 t.chans.length cap1, .slice a2 t.towns.length cap2, .slice a3 t.floods.length cap3] 26] ∧ (k ≤ t.chans.length) ∧ (namedR (·.name) chanE t.chans [] 0 = namedR (·.name) chanE (t.chans.drop k) ((t.chans.take k).map (·.name)) k) ∧ zz = t.chans.length - k) _ ⟨_, rfl, 0, rfl, rfl, hS, (Nat.zero_le _), (rfl), rfl⟩ ?_
      clear hS
      rintro f w _ ⟨k, h1, h5, hS, hk, hI, rfl⟩
      refine seq ?_
      refine seq ?_
      refine region ?_
      refine sv (yMove h5) ?_
      refine sv (fa26_1 h1) ?_
      refine sv (yLdB rfl Tryz.isAgg22 (hS.at _) rfl) ?_
      refine sv (yLen rfl Tryz.underlying22) ?_
      refine sv (yLss rfl rfl) ?_
      refine nil ?_
      show Code.wp _ _ _ _ _
      refine cond rfl (fun c23 => ?_) (fun c23 => ?_)
      ·
        simp only [Bool.and_eq_true, Bool.or_eq_true, Bool.and_eq_false_iff, Bool.or_eq_false_iff, decide_eq_true_eq, decide_eq_false_iff_not, Bool.not_eq_true, Bool.not_eq_false, Bool.not_not, Bool.not_eq_eq_eq_not, Bool.not_true, Bool.not_false, Bool.false_eq_true, Bool.true_eq_false, ne_eq, Decidable.not_not, not_false_eq_true, not_true_eq_false] at c23
        refine skip ?_
        show Code.wp _ _ _ _ _
        refine seq ?_
        refine block ?_
        refine seq ?_
        refine region ?_
        obtain ⟨x, hx, hd⟩ := drop_of (l := t.chans) (k := k) (by omega)
        refine sv (yLdBA h1 Tryz.isAgg26 Tryz.sizeOf26 (hS.at _) rfl rfl) ?_
        refine sv (yMove h5) ?_
        refine scall Tryz.call67 (.cons rfl (.cons rfl .nil)) (c_rchan (h.ext hS.ext) hx) ?_
        rintro _ w ⟨rfl, hE⟩; replace hS := hS.step hE; clear hE
        refine sv (yAsg rfl) ?_
        refine nil ?_
        show Code.wp _ _ _ _ _
        refine seq ?_
        refine region ?_
        refine sv (yMove rfl) ?_
        refine sv (yNeq rfl rfl) ?_
        refine nil ?_
        show Code.wp _ _ _ _ _
        refine cond rfl (fun c30 => ?_) (fun c30 => ?_)
        ·
          simp only [Bool.and_eq_true, Bool.or_eq_true, Bool.and_eq_false_iff, Bool.or_eq_false_iff, decide_eq_true_eq, decide_eq_false_iff_not, Bool.not_eq_true, Bool.not_eq_false, Bool.not_not, Bool.not_eq_eq_eq_not, Bool.not_true, Bool.not_false, Bool.false_eq_true, Bool.true_eq_false, ne_eq, Decidable.not_not, not_false_eq_true, not_true_eq_false] at c30
          refine seq ?_
          refine region ?_
          refine sv (yMove h5) ?_
          refine sv (yMove rfl) ?_
          refine sv (yAsg rfl) ?_
          refine sv (yAsg rfl) ?_
          refine sv (yAsg rfl) ?_
          refine nil ?_
          show Code.wp _ _ _ _ _
          have hNE : namedR (·.name) chanE t.chans [] 0 = ((k : Int), errR (·.name) chanE t.chans k x) := hI.trans (namedR_hit hd c30)
          have hfin : checkA t = (2, (k : Int), errR (·.name) chanE t.chans k x) := by unfold checkA; rw [if_neg (by rw [h14]; decide), if_neg c18, if_pos (by rw [hNE]; exact c30), hNE]
          refine wp_ret (blockR (thenR (thenR (blockR (thenR ?_)))))
          exact retV (res3 rfl (fstI hfin) (thd1I hfin) (thd2I hfin)) hS.ext
        ·
          simp only [Bool.and_eq_true, Bool.or_eq_true, Bool.and_eq_false_iff, Bool.or_eq_false_iff, decide_eq_true_eq, decide_eq_false_iff_not, Bool.not_eq_true, Bool.not_eq_false, Bool.not_not, Bool.not_eq_eq_eq_not, Bool.not_true, Bool.not_false, Bool.false_eq_true, Bool.true_eq_false, ne_eq, Decidable.not_not, not_false_eq_true, not_true_eq_false] at c30
          refine skip ?_
          show Code.wp _ _ _ _ _
          refine region ?_
          refine sv (yMove h5) ?_
          refine sv (yAdd rfl rfl ⟨by omega, by omega⟩) ?_
          refine sv (yAsg rfl) ?_
          refine nil ?_
          exact ⟨_, _, rfl, ⟨k + 1, h1, rfl, hS, (by omega), (by rw [hI]; exact namedR_step hx hd c30), rfl⟩, by omega⟩
      ·
        simp only [Bool.and_eq_true, Bool.or_eq_true, Bool.and_eq_false_iff, Bool.or_eq_false_iff, decide_eq_true_eq, decide_eq_false_iff_not, Bool.not_eq_true, Bool.not_eq_false, Bool.not_not, Bool.not_eq_eq_eq_not, Bool.not_true, Bool.not_false, Bool.false_eq_true, Bool.true_eq_false, ne_eq, Decidable.not_not, not_false_eq_true, not_true_eq_false] at c23
        have hc0 : (namedR (·.name) chanE t.chans [] 0).2 = 0 := by rw [hI, namedR_end (by omega)]
        refine exit ?_
        show Code.wp _ _ _ _ _
        refine seq ?_
        refine seq ?_
        refine region ?_
        refine sv (fa26_2 h1) ?_
        refine sv (yLdB rfl Tryz.isAgg23 (hS.at _) rfl) ?_
        refine sv (yLen rfl Tryz.underlying23) ?_
        refine sv (yGtr rfl rfl) ?_
        refine nil ?_
        show Code.wp _ _ _ _ _
        refine cond rfl (fun c36 => ?_) (fun c36 => ?_)
        ·
          simp only [Bool.and_eq_true, Bool.or_eq_true, Bool.and_eq_false_iff, Bool.or_eq_false_iff, decide_eq_true_eq, decide_eq_false_iff_not, Bool.not_eq_true, Bool.not_eq_false, Bool.not_not, Bool.not_eq_eq_eq_not, Bool.not_true, Bool.not_false, Bool.false_eq_true, Bool.true_eq_false, ne_eq, Decidable.not_not, not_false_eq_true, not_true_eq_false] at c36
          refine seq ?_
          refine region ?_
          refine sv (yAsg rfl) ?_
          refine sv (yAsg rfl) ?_
          refine sv (yAsg rfl) ?_
          refine nil ?_
          show Code.wp _ _ _ _ _
          have hfin : checkA t = (3, 0, 3) := by unfold checkA; rw [if_neg (by rw [h14]; decide), if_neg c18, if_neg (fun h => h hc0), if_pos c36]
          refine wp_ret (thenR ?_)
          exact retV (res3 rfl (fstI hfin) (thd1I hfin) (thd2I hfin)) hS.ext
        ·
          simp only [Bool.and_eq_true, Bool.or_eq_true, Bool.and_eq_false_iff, Bool.or_eq_false_iff, decide_eq_true_eq, decide_eq_false_iff_not, Bool.not_eq_true, Bool.not_eq_false, Bool.not_not, Bool.not_eq_eq_eq_not, Bool.not_true, Bool.not_false, Bool.false_eq_true, Bool.true_eq_false, ne_eq, Decidable.not_not, not_false_eq_true, not_true_eq_false] at c36
          refine skip ?_
          show Code.wp _ _ _ _ _
          refine seq ?_
          refine seq ?_
          refine region ?_
          refine sv (yAsg rfl) ?_
          refine nil ?_
          show Code.wp _ _ _ _ _
          refine block ?_
          refine loop (fun f w zz => ∃ (k : Nat), f 1 = .pointer (some ⟨b1, 0, none⟩) ∧ f 7 = .int .i64 (k : Int) ∧ StX [] w0 w [blk b1 [.int .i64 t.polders, .slice a1 t.chans.length cap1, .slice a2 t.towns.length cap2, .slice a3 t.floods.length cap3] 26] ∧ (k ≤ t.towns.length) ∧ (namedR (·.name) (townE t.polders t.chans.length) t.towns [] 0 = namedR (·.name) (townE t.polders t.chans.length) (t.towns.drop k) ((t.towns.take k).map (·.name)) k) ∧ zz = t.towns.length - k) _ ⟨_, rfl, 0, h1, rfl, hS, (Nat.zero_le _), (rfl), rfl⟩ ?_
          clear hS
          rintro f w _ ⟨k, h1, h7, hS, hk, hI, rfl⟩
          refine seq ?_
          refine seq ?_
          refine region ?_
          refine sv (yMove h7) ?_
          refine sv (fa26_2 h1) ?_
          refine sv (yLdB rfl Tryz.isAgg23 (hS.at _) rfl) ?_
          refine sv (yLen rfl Tryz.underlying23) ?_
          refine sv (yLss rfl rfl) ?_
          refine nil ?_
          show Code.wp _ _ _ _ _
          refine cond rfl (fun c41 => ?_) (fun c41 => ?_)
          ·
            simp only [Bool.and_eq_true, Bool.or_eq_true, Bool.and_eq_false_iff, Bool.or_eq_false_iff, decide_eq_true_eq, decide_eq_false_iff_not, Bool.not_eq_true, Bool.not_eq_false, Bool.not_not, Bool.not_eq_eq_eq_not, Bool.not_true, Bool.not_false, Bool.false_eq_true, Bool.true_eq_false, ne_eq, Decidable.not_not, not_false_eq_true, not_true_eq_false] at c41
            refine skip ?_
            show Code.wp _ _ _ _ _
            refine seq ?_
            refine block ?_
            refine seq ?_
            refine region ?_
            obtain ⟨x, hx, hd⟩ := drop_of (l := t.towns) (k := k) (by omega)
            refine sv (yLdBA h1 Tryz.isAgg26 Tryz.sizeOf26 (hS.at _) rfl rfl) ?_
            refine sv (yMove h7) ?_
            refine scall Tryz.call68 (.cons rfl (.cons rfl .nil)) (c_rtown (h.ext hS.ext) hx hp) ?_
            rintro _ w ⟨rfl, hE⟩; replace hS := hS.step hE; clear hE
            refine sv (yAsg rfl) ?_
            refine nil ?_
            show Code.wp _ _ _ _ _
            refine seq ?_
            refine region ?_
            refine sv (yMove rfl) ?_
            refine sv (yNeq rfl rfl) ?_
            refine nil ?_
            show Code.wp _ _ _ _ _
            refine cond rfl (fun c48 => ?_) (fun c48 => ?_)
            ·
              simp only [Bool.and_eq_true, Bool.or_eq_true, Bool.and_eq_false_iff, Bool.or_eq_false_iff, decide_eq_true_eq, decide_eq_false_iff_not, Bool.not_eq_true, Bool.not_eq_false, Bool.not_not, Bool.not_eq_eq_eq_not, Bool.not_true, Bool.not_false, Bool.false_eq_true, Bool.true_eq_false, ne_eq, Decidable.not_not, not_false_eq_true, not_true_eq_false] at c48
              refine seq ?_
              refine region ?_
              refine sv (yMove h7) ?_
              refine sv (yMove rfl) ?_
              refine sv (yAsg rfl) ?_
              refine sv (yAsg rfl) ?_
              refine sv (yAsg rfl) ?_
              refine nil ?_
              show Code.wp _ _ _ _ _
              have hNE : namedR (·.name) (townE t.polders t.chans.length) t.towns [] 0 = ((k : Int), errR (·.name) (townE t.polders t.chans.length) t.towns k x) := hI.trans (namedR_hit hd c48)
              have hfin : checkA t = (3, (k : Int), errR (·.name) (townE t.polders t.chans.length) t.towns k x) := by unfold checkA; rw [if_neg (by rw [h14]; decide), if_neg c18, if_neg (fun h => h hc0), if_neg c36, if_pos (by rw [hNE]; exact c48), hNE]
              refine wp_ret (blockR (thenR (thenR (blockR (thenR ?_)))))
              exact retV (res3 rfl (fstI hfin) (thd1I hfin) (thd2I hfin)) hS.ext
            ·
              simp only [Bool.and_eq_true, Bool.or_eq_true, Bool.and_eq_false_iff, Bool.or_eq_false_iff, decide_eq_true_eq, decide_eq_false_iff_not, Bool.not_eq_true, Bool.not_eq_false, Bool.not_not, Bool.not_eq_eq_eq_not, Bool.not_true, Bool.not_false, Bool.false_eq_true, Bool.true_eq_false, ne_eq, Decidable.not_not, not_false_eq_true, not_true_eq_false] at c48
              refine skip ?_
              show Code.wp _ _ _ _ _
              refine region ?_
              refine sv (yMove h7) ?_
              refine sv (yAdd rfl rfl ⟨by omega, by omega⟩) ?_
              refine sv (yAsg rfl) ?_
              refine nil ?_
              exact ⟨_, _, rfl, ⟨k + 1, h1, rfl, hS, (by omega), (by rw [hI]; exact namedR_step hx hd c48), rfl⟩, by omega⟩
          ·
            simp only [Bool.and_eq_true, Bool.or_eq_true, Bool.and_eq_false_iff, Bool.or_eq_false_iff, decide_eq_true_eq, decide_eq_false_iff_not, Bool.not_eq_true, Bool.not_eq_false, Bool.not_not, Bool.not_eq_eq_eq_not, Bool.not_true, Bool.not_false, Bool.false_eq_true, Bool.true_eq_false, ne_eq, Decidable.not_not, not_false_eq_true, not_true_eq_false] at c41
            have ht0 : (namedR (·.name) (townE t.polders t.chans.length) t.towns [] 0).2 = 0 := by rw [hI, namedR_end (by omega)]
            refine exit ?_
            show Code.wp _ _ _ _ _
            refine seq ?_
            refine seq ?_
            refine region ?_
            refine sv (fa26_3 h1) ?_
            refine sv (yLdB rfl Tryz.isAgg24 (hS.at _) rfl) ?_
            refine sv (yLen rfl Tryz.underlying24) ?_
            refine scall Tryz.call66 (.cons rfl (.cons rfl (.cons rfl .nil))) c_rin ?_
            rintro _ w ⟨rfl, hE⟩; replace hS := hS.step hE; clear hE
            refine sv (yNot rfl) ?_
            refine nil ?_
            show Code.wp _ _ _ _ _
            refine cond rfl (fun c55 => ?_) (fun c55 => ?_)
            ·
              have h55 : outB t.floods.length 1 8 = true := by rw [← inB_not]; exact c55
              refine seq ?_
              refine region ?_
              refine sv (yAsg rfl) ?_
              refine sv (yAsg rfl) ?_
              refine sv (yAsg rfl) ?_
              refine nil ?_
              show Code.wp _ _ _ _ _
              have hfin : checkA t = (4, 0, 3) := by unfold checkA; rw [if_neg (by rw [h14]; decide), if_neg c18, if_neg (fun h => h hc0), if_neg c36, if_neg (fun h => h ht0), if_pos h55]
              refine wp_ret (thenR ?_)
              exact retV (res3 rfl (fstI hfin) (thd1I hfin) (thd2I hfin)) hS.ext
            ·
              have h55 : outB t.floods.length 1 8 = false := by rw [← inB_not]; exact c55
              refine skip ?_
              show Code.wp _ _ _ _ _
              refine seq ?_
              refine seq ?_
              refine region ?_
              refine sv (yAsg rfl) ?_
              refine nil ?_
              show Code.wp _ _ _ _ _
              refine block ?_
              refine loop (fun f w zz => ∃ (k : Nat), f 1 = .pointer (some ⟨b1, 0, none⟩) ∧ f 9 = .int .i64 (k : Int) ∧ StX [] w0 w [blk b1 [.int .i64 t.polders, .slice a1 t.chans.length cap1, .slice a2 t.towns.length cap2, .slice a3 t.floods.length cap3] 26] ∧ (k ≤ t.floods.length) ∧ (firstR (floodE t.polders) t.floods 0 = firstR (floodE t.polders) (t.floods.drop k) k) ∧ zz = t.floods.length - k) _ ⟨_, rfl, 0, h1, rfl, hS, (Nat.zero_le _), (rfl), rfl⟩ ?_
              clear hS
              rintro f w _ ⟨k, h1, h9, hS, hk, hI, rfl⟩
              refine seq ?_
              refine seq ?_
              refine region ?_
              refine sv (yMove h9) ?_
              refine sv (fa26_3 h1) ?_
              refine sv (yLdB rfl Tryz.isAgg24 (hS.at _) rfl) ?_
              refine sv (yLen rfl Tryz.underlying24) ?_
              refine sv (yLss rfl rfl) ?_
              refine nil ?_
              show Code.wp _ _ _ _ _
              refine cond rfl (fun c60 => ?_) (fun c60 => ?_)
              ·
                simp only [Bool.and_eq_true, Bool.or_eq_true, Bool.and_eq_false_iff, Bool.or_eq_false_iff, decide_eq_true_eq, decide_eq_false_iff_not, Bool.not_eq_true, Bool.not_eq_false, Bool.not_not, Bool.not_eq_eq_eq_not, Bool.not_true, Bool.not_false, Bool.false_eq_true, Bool.true_eq_false, ne_eq, Decidable.not_not, not_false_eq_true, not_true_eq_false] at c60
                obtain ⟨l, hxl, hdl⟩ := drop_of (l := t.floods) (k := k) (by omega)
                obtain ⟨bl, ol, csl, hal, hlenl, hcsl, hRl⟩ := hel3 (k) (by omega)
                obtain rfl : l = t.floods[k] := (List.getElem?_eq_some_iff.1 hxl).2.symm
                generalize t.floods[k] = l at hxl hdl hRl
                have hR1 := hRl
                obtain ⟨lv, rfl, hsl⟩ := id hR1
                obtain ⟨al, cl2, rfl, hlcap, hlmx, hlel⟩ := id hsl
                refine skip ?_
                show Code.wp _ _ _ _ _
                refine seq ?_
                refine block ?_
                refine seq ?_
                refine seq ?_
                refine region_draw mixed (by kernel_rfl) hS ?_
                refine qv (fun w hS => (fa26_3 h1)) ?_
                refine qv (fun w hS => (yLdB rfl Tryz.isAgg24 (hS.at _) rfl)) ?_
                refine qv (fun w hS => (yMove h9)) ?_
                refine qv (fun w hS => (yIxa rfl hal rfl Tryz.runUnderlying24 Tryz.sizeOf34 (by omega) (by omega))) ?_
                refine qv (fun w hS => (yLd rfl Tryz.isAgg34 ((hcsl.ext hS.ext).one))) ?_
                refine qv (fun w hS => (yLen rfl Tryz.underlying34)) ?_
                refine qv (fun w hS => (fa26_0 h1)) ?_
                refine qv (fun w hS => (yLdB rfl Tryz.isAgg3 (hS.at _) rfl)) ?_
                refine qv (fun w hS => (yNeq rfl rfl)) ?_
                clear hS; refine qnil (fun w hS => ?_)
                show Code.wp _ _ _ _ _
                refine cond rfl (fun c71 => ?_) (fun c71 => ?_)
                ·
                  simp only [Bool.and_eq_true, Bool.or_eq_true, Bool.and_eq_false_iff, Bool.or_eq_false_iff, decide_eq_true_eq, decide_eq_false_iff_not, Bool.not_eq_true, Bool.not_eq_false, Bool.not_not, Bool.not_eq_eq_eq_not, Bool.not_true, Bool.not_false, Bool.false_eq_true, Bool.true_eq_false, ne_eq, Decidable.not_not, not_false_eq_true, not_true_eq_false] at c71
                  refine seq ?_
                  refine region ?_
                  refine sv (yMove h9) ?_
                  refine sv (yAsg rfl) ?_
                  refine sv (yAsg rfl) ?_
                  refine sv (yAsg rfl) ?_
                  refine nil ?_
                  show Code.wp _ _ _ _ _
                  have hfe : floodE t.polders l = 2 := by unfold floodE; rw [if_pos c71]
                  have hFR : firstR (floodE t.polders) t.floods 0 = ((k : Int), 2) := by rw [hI, hdl, firstR, if_pos (by rw [hfe]; decide), hfe]
                  have hfin : checkA t = (4, (k : Int), 2) := by unfold checkA; rw [if_neg (by rw [h14]; decide), if_neg c18, if_neg (fun h => h hc0), if_neg c36, if_neg (fun h => h ht0), if_neg (by rw [h55]; decide), if_pos (by rw [hFR]; show (2 : Int) ≠ 0; decide), hFR]
                  refine wp_ret (thenR (blockR (thenR (thenR (blockR (thenR ?_))))))
                  exact retV (res3 rfl (fstI hfin) (thd1I hfin) (thd2I hfin)) hS.ext
                ·
                  simp only [Bool.and_eq_true, Bool.or_eq_true, Bool.and_eq_false_iff, Bool.or_eq_false_iff, decide_eq_true_eq, decide_eq_false_iff_not, Bool.not_eq_true, Bool.not_eq_false, Bool.not_not, Bool.not_eq_eq_eq_not, Bool.not_true, Bool.not_false, Bool.false_eq_true, Bool.true_eq_false, ne_eq, Decidable.not_not, not_false_eq_true, not_true_eq_false] at c71
                  refine skip ?_
                  show Code.wp _ _ _ _ _
                  refine seq ?_
                  refine region ?_
                  refine sv (yAsg rfl) ?_
                  refine nil ?_
                  show Code.wp _ _ _ _ _
                  refine block ?_
                  refine loop (fun f w zz => ∃ (j : Nat), f 1 = .pointer (some ⟨b1, 0, none⟩) ∧ f 9 = .int .i64 (k : Int) ∧ f 10 = .int .i64 (j : Int) ∧ StX [] w0 w [blk b1 [.int .i64 t.polders, .slice a1 t.chans.length cap1, .slice a2 t.towns.length cap2, .slice a3 t.floods.length cap3] 26] ∧ (j ≤ l.length) ∧ (∀ q, q < j → ∀ z, l[q]? = some z → outB z (-1) 200000 = false) ∧ zz = l.length - j) _ ⟨_, rfl, 0, h1, h9, rfl, hS, (Nat.zero_le _), (fun q hq => absurd hq (Nat.not_lt_zero q)), rfl⟩ ?_
                  clear hS
                  rintro f w _ ⟨j, h1, h9, h10, hS, hj, hM, rfl⟩
                  refine seq ?_
                  refine seq ?_
                  refine region ?_
                  refine sv (yMove h10) ?_
                  refine sv (fa26_3 h1) ?_
                  refine sv (yLdB rfl Tryz.isAgg24 (hS.at _) rfl) ?_
                  refine sv (yMove h9) ?_
                  refine sv (yIxa rfl hal rfl Tryz.runUnderlying24 Tryz.sizeOf34 (by omega) (by omega)) ?_
                  refine sv (yLd rfl Tryz.isAgg34 ((hcsl.ext hS.ext).one)) ?_
                  refine sv (yLen rfl Tryz.underlying34) ?_
                  refine sv (yLss rfl rfl) ?_
                  refine nil ?_
                  show Code.wp _ _ _ _ _
                  refine cond rfl (fun c80 => ?_) (fun c80 => ?_)
                  ·
                    simp only [Bool.and_eq_true, Bool.or_eq_true, Bool.and_eq_false_iff, Bool.or_eq_false_iff, decide_eq_true_eq, decide_eq_false_iff_not, Bool.not_eq_true, Bool.not_eq_false, Bool.not_not, Bool.not_eq_eq_eq_not, Bool.not_true, Bool.not_false, Bool.false_eq_true, Bool.true_eq_false, ne_eq, Decidable.not_not, not_false_eq_true, not_true_eq_false] at c80
                    obtain ⟨z, hxz, hdz⟩ := drop_of (l := l) (k := j) (by omega)
                    obtain ⟨bz, oz, csz, haz, hlenz, hcsz, hRz⟩ := hlel (j) (by omega)
                    obtain rfl : z = l[j] := (List.getElem?_eq_some_iff.1 hxz).2.symm
                    generalize l[j] = z at hxz hdz hRz
                    obtain ⟨rfl, hzi⟩ := hRz
                    refine skip ?_
                    show Code.wp _ _ _ _ _
                    refine seq ?_
                    refine block ?_
                    refine seq ?_
                    refine region ?_
                    refine sv (fa26_3 h1) ?_
                    refine sv (yLdB rfl Tryz.isAgg24 (hS.at _) rfl) ?_
                    refine sv (yMove h9) ?_
                    refine sv (yIxa rfl hal rfl Tryz.runUnderlying24 Tryz.sizeOf34 (by omega) (by omega)) ?_
                    refine sv (yLd rfl Tryz.isAgg34 ((hcsl.ext hS.ext).one)) ?_
                    refine sv (yMove h10) ?_
                    refine sv (yIxa rfl haz rfl Tryz.runUnderlying34 Tryz.sizeOf3 (by omega) (by omega)) ?_
                    refine sv (yLd rfl Tryz.isAgg3 ((hcsz.ext hS.ext).one)) ?_
                    refine scall Tryz.call66 (.cons rfl (.cons rfl (.cons rfl .nil))) c_rin ?_
                    rintro _ w ⟨rfl, hE⟩; replace hS := hS.step hE; clear hE
                    refine sv (yNot rfl) ?_
                    refine nil ?_
                    show Code.wp _ _ _ _ _
                    refine cond rfl (fun c92 => ?_) (fun c92 => ?_)
                    ·
                      have h92 : outB z (-1) 200000 = true := by rw [← inB_not]; exact c92
                      refine seq ?_
                      refine region ?_
                      refine sv (yMove h9) ?_
                      refine sv (yAsg rfl) ?_
                      refine sv (yAsg rfl) ?_
                      refine sv (yAsg rfl) ?_
                      refine nil ?_
                      show Code.wp _ _ _ _ _
                      have hfe : floodE t.polders l = 7 := by unfold floodE; rw [if_neg (fun h => h c71), if_pos (List.any_eq_true.2 ⟨z, List.mem_of_getElem? hxz, h92⟩)]
                      have hFR : firstR (floodE t.polders) t.floods 0 = ((k : Int), 7) := by rw [hI, hdl, firstR, if_pos (by rw [hfe]; decide), hfe]
                      have hfin : checkA t = (4, (k : Int), 7) := by unfold checkA; rw [if_neg (by rw [h14]; decide), if_neg c18, if_neg (fun h => h hc0), if_neg c36, if_neg (fun h => h ht0), if_neg (by rw [h55]; decide), if_pos (by rw [hFR]; show (7 : Int) ≠ 0; decide), hFR]
                      refine wp_ret (blockR (thenR (thenR (blockR (blockR (thenR (thenR (blockR (thenR ?_)))))))))
                      exact retV (res3 rfl (fstI hfin) (thd1I hfin) (thd2I hfin)) hS.ext
                    ·
                      have h92 : outB z (-1) 200000 = false := by rw [← inB_not]; exact c92
                      refine skip ?_
                      show Code.wp _ _ _ _ _
                      refine region ?_
                      refine sv (yMove h10) ?_
                      refine sv (yAdd rfl rfl ⟨by omega, by omega⟩) ?_
                      refine sv (yAsg rfl) ?_
                      refine nil ?_
                      exact ⟨_, _, rfl, ⟨j + 1, h1, h9, rfl, hS, (by omega), (snoc hM (fun v hv => by cases Option.some.inj (hxz.symm.trans hv); exact h92)), rfl⟩, by omega⟩
                  ·
                    simp only [Bool.and_eq_true, Bool.or_eq_true, Bool.and_eq_false_iff, Bool.or_eq_false_iff, decide_eq_true_eq, decide_eq_false_iff_not, Bool.not_eq_true, Bool.not_eq_false, Bool.not_not, Bool.not_eq_eq_eq_not, Bool.not_true, Bool.not_false, Bool.false_eq_true, Bool.true_eq_false, ne_eq, Decidable.not_not, not_false_eq_true, not_true_eq_false] at c80
                    refine exit ?_
                    show Code.wp _ _ _ _ _
                    refine region ?_
                    refine sv (yMove h9) ?_
                    refine sv (yAdd rfl rfl ⟨by omega, by omega⟩) ?_
                    refine sv (yAsg rfl) ?_
                    refine nil ?_
                    obtain rfl : j = l.length := by omega
                    have hfe : floodE t.polders l = 0 := by unfold floodE; rw [if_neg (fun h => h c71), if_neg (fun hh => by obtain ⟨z, hz, hb⟩ := List.any_eq_true.1 hh; obtain ⟨q, hq, rfl⟩ := List.mem_iff_getElem.1 hz; rw [hM q hq _ (List.getElem?_eq_getElem hq)] at hb; cases hb)]
                    exact ⟨_, _, rfl, ⟨k + 1, h1, rfl, hS, (by omega), (by rw [hI, hdl, firstR, if_neg (fun h => h hfe)]; rfl), rfl⟩, by omega⟩
              ·
                simp only [Bool.and_eq_true, Bool.or_eq_true, Bool.and_eq_false_iff, Bool.or_eq_false_iff, decide_eq_true_eq, decide_eq_false_iff_not, Bool.not_eq_true, Bool.not_eq_false, Bool.not_not, Bool.not_eq_eq_eq_not, Bool.not_true, Bool.not_false, Bool.false_eq_true, Bool.true_eq_false, ne_eq, Decidable.not_not, not_false_eq_true, not_true_eq_false] at c60
                obtain rfl : k = t.floods.length := by omega
                have hFR : firstR (floodE t.polders) t.floods 0 = (0, 0) := by rw [hI, List.drop_length]; rfl
                refine exit ?_
                show Code.wp _ _ _ _ _
                refine seq ?_
                refine region ?_
                refine sv (yAsg rfl) ?_
                refine sv (yAsg rfl) ?_
                refine sv (yAsg rfl) ?_
                refine nil ?_
                show Code.wp _ _ _ _ _
                have hfin : checkA t = (0, 0, 0) := by unfold checkA; rw [if_neg (by rw [h14]; decide), if_neg c18, if_neg (fun h => h hc0), if_neg c36, if_neg (fun h => h ht0), if_neg (by rw [h55]; decide), if_neg (fun h => h (by rw [hFR]))]
                refine wp_ret ?_
                exact retV (res3 rfl (fstI hfin) (thd1I hfin) (thd2I hfin)) hS.ext
end Go.Proofs.YtmoilbakmlekbaaGreatDoor

/- part LibB1 -/
namespace Bx
open Go Go.RowKit
def fromA (a : Option Addr) (cap i k : Nat) : Option Addr := if cap = i then a else a.map (·.add (i * k))
section
variable {P : Program} {ρ : Operand → Value} {w : World} {ty : TypeId}
end
theorem Sl.drop {α : Type} {w : World} {k : Nat} {R : World → List Value → α → Prop} {a : Option Addr} {n cap i : Nat} {l : List α} (h : Sl w k R (.slice a n cap) l) (hi : i ≤ n) : Sl w k R (.slice (fromA a cap i k) (n - i) (cap - i)) (l.drop i) := by
  obtain ⟨a', cap', hv, h1, h2, h3⟩ := h
  simp only [Value.slice.injEq] at hv
  obtain ⟨rfl, rfl, rfl⟩ := hv
  refine ⟨_, _, by rw [List.length_drop], by rw [List.length_drop]; omega, by omega, fun j hj => ?_⟩
  rw [List.length_drop] at hj
  obtain ⟨b, o, cs, ha, hlc, hc, hr⟩ := h3 (i + j) (by omega)
  refine ⟨b, o + i * k, cs, ?_, hlc, ?_, by rw [List.getElem_drop]; exact hr⟩
  · unfold fromA
    rw [if_neg (by omega), ha, Option.map_some, addr_add]
  · rw [show o + i * k + j * k = o + (i + j) * k by rw [Nat.add_mul]; omega]; exact hc
theorem Sl.fit {α : Type} {w : World} {k : Nat} {R : World → List Value → α → Prop} {a : Option Addr} {n cap : Nat} {l : List α} (h : Sl w k R (.slice a n cap) l) : n ≤ cap := by
  obtain ⟨a', cap', hv, h1, -⟩ := h
  simp only [Value.slice.injEq] at hv
  omega
end Bx

/- part A25 -/
namespace Bx
open Go Go.RowKit
theorem arrS_skip {x : Town} {s : Span × Int} {l : List Int} (h : fld x l < 0) : arrStep x s l = s := if_pos h
theorem arrS_zero {x : Town} {s : Span × Int} {l : List Int} (h : ¬ fld x l < 0) (h0 : s.2 = 0) : arrStep x s l = (⟨min (fld x l + x.travel) (fld x l + x.travel), max (fld x l + x.travel) (fld x l + x.travel)⟩, s.2 + 1) := by
  unfold fld at *
  unfold arrStep
  rw [if_neg h, if_pos h0, h0, Int.min_self, Int.max_self]; rfl
theorem arrS_more {x : Town} {s : Span × Int} {l : List Int} (h : ¬ fld x l < 0) (h0 : ¬ s.2 = 0) : arrStep x s l = (⟨min s.1.lo (fld x l + x.travel), max s.1.hi (fld x l + x.travel)⟩, s.2 + 1) := by
  unfold fld at *
  unfold arrStep
  rw [if_neg h, if_neg h0]
theorem arrP_bd {t : Task} (ht : TaskOk t) {x : Town} (hx : TownOk t x) (k : Nat) : ((0 ≤ (arrP t x k).1.lo ∧ (arrP t x k).1.lo ≤ 200500) ∧ (0 ≤ (arrP t x k).1.hi ∧ (arrP t x k).1.hi ≤ 200500)) ∧ 0 ≤ (arrP t x k).2 ∧ (arrP t x k).2 ≤ 8 := by
  have := fold_bd ht hx k
  simp only at this
  unfold arrP
  omega
theorem fld_at {t : Task} (hok : TaskOk t) {i : Int} (hi : 0 ≤ i ∧ i < t.towns.length) {l : List Int} (hl : l ∈ t.floods) : l[(twn t i).polder.toNat]? = some (fld (twn t i) l) ∧ -1 ≤ fld (twn t i) l ∧ fld (twn t i) l ≤ 200000 := by
  have hf := hok.flood l hl
  have hp := (town_ok hok hi).pol
  have hin : (twn t i).polder.toNat < l.length := by omega
  have e : fld (twn t i) l = l[(twn t i).polder.toNat] := by unfold fld; simp [List.getD, hin]
  rw [e]
  exact ⟨List.getElem?_eq_getElem hin, hf.2 _ (List.getElem_mem hin)⟩
end Bx

/- part Aw30 -/
namespace Go.Proofs.YtmoilbakmlekbaaGreatDoor
open Go Bx
/-- barrage/barrageref11.good -/
theorem c_rgood {t : Task} {hv nv fv : Value} {w0 : World} (h : RTask w0 [.int .i64 t.polders, hv, nv, fv] t) : CV Tryz.prog 77 #[.agg [.int .i64 t.polders, hv, nv, fv].toArray] w0 (.int .i64 (checkA t).2.2) := by
  obtain ⟨hv', nv', fv', he0, hpol, hsh, hsn, hsf⟩ := id h
  obtain ⟨rfl, rfl, rfl⟩ : hv' = hv ∧ nv' = nv ∧ fv' = fv := by simpa [eq_comm] using he0
  obtain ⟨a1, cap1, rfl, hcap1, hmx1, hel1⟩ := id hsh
  obtain ⟨a2, cap2, rfl, hcap2, hmx2, hel2⟩ := id hsn
  obtain ⟨a3, cap3, rfl, hcap3, hmx3, hel3⟩ := id hsf
  refine enter Tryz.func77 rfl Tryz.ntmps77 rfl ?_
  have hS := St.start w0
  refine seq ?_
  refine region ?_
  refine sbox hS rfl rfl ?_; clear hS; intro b1 w hS
  refine sv (yAsg rfl) ?_
  refine nil ?_
  show Code.wp _ _ _ _ _
  refine seq ?_
  refine region ?_
  refine sv (yLdBA rfl Tryz.isAgg26 Tryz.sizeOf26 (hS.at _) rfl rfl) ?_
  refine scall Tryz.call22 (.cons rfl .nil) (c_rCheck (h.ext hS.ext)) ?_
  rintro _ w ⟨rfl, hE⟩; replace hS := hS.step hE; clear hE
  refine sv (yMove rfl) ?_
  refine sv (yExt rfl rfl) ?_
  refine sv (yExt rfl rfl) ?_
  refine sv (yExt rfl rfl) ?_
  refine sv (yAsg rfl) ?_
  refine sv (yAsg rfl) ?_
  refine sv (yAsg rfl) ?_
  refine nil ?_
  show Code.wp _ _ _ _ _
  refine seq ?_
  refine region ?_
  refine sv (yMove rfl) ?_
  refine sv (yAsg rfl) ?_
  refine nil ?_
  show Code.wp _ _ _ _ _
  refine wp_ret ?_
  exact retV (res1 rfl rfl) hS.ext
set_option maxHeartbeats 2000000 in
/-- barrage/barrageref11.arrival -/
theorem c_rarr {t : Task} {hv nv fv : Value} {i : Int} {w0 : World} (h : RTask w0 [.int .i64 t.polders, hv, nv, fv] t) (hok : TaskOk t) (hi : 0 ≤ i ∧ i < t.towns.length) : CV Tryz.prog 71 #[.agg [.int .i64 t.polders, hv, nv, fv].toArray, .int .i64 i] w0 (.tuple #[.agg (spanC (arr t i).1).toArray, .int .i64 (arr t i).2]) := by
  obtain ⟨hv', nv', fv', he0, hpol, hsh, hsn, hsf⟩ := id h
  obtain ⟨rfl, rfl, rfl⟩ : hv' = hv ∧ nv' = nv ∧ fv' = fv := by simpa [eq_comm] using he0
  obtain ⟨a1, cap1, rfl, hcap1, hmx1, hel1⟩ := id hsh
  obtain ⟨a2, cap2, rfl, hcap2, hmx2, hel2⟩ := id hsn
  obtain ⟨a3, cap3, rfl, hcap3, hmx3, hel3⟩ := id hsf
  obtain ⟨bt, ot, cst, hat, hlt, hcst, hRt, -⟩ := sl_at hsn (twn_i (t := t) hi)
  obtain ⟨dvt, rfl, -, -, -, -, hslt, -⟩ := hRt
  have hto := town_ok hok hi
  have htp := hto.pol
  have htr := hto.travel
  have htl := hto.lead
  refine enter Tryz.func71 rfl Tryz.ntmps71 rfl ?_
  have hS := St.start w0
  refine seq ?_
  refine region ?_
  refine sbox hS rfl rfl ?_; clear hS; intro b2 w hS
  refine salloc hS Tryz.zeroValue44 rfl ?_; clear hS; intro b4 w hS
  refine sv (yAsg rfl) ?_
  refine nil ?_
  show Code.wp _ _ _ _ _
  refine seq ?_
  refine region ?_
  refine salloc hS Tryz.zeroValue44 rfl ?_; clear hS; intro b6 w hS
  refine nil ?_
  show Code.wp _ _ _ _ _
  refine seq ?_
  refine region ?_
  refine sv (yAsg rfl) ?_
  refine nil ?_
  show Code.wp _ _ _ _ _
  refine seq ?_
  refine seq ?_
  refine region ?_
  refine sv (yAsg rfl) ?_
  refine nil ?_
  show Code.wp _ _ _ _ _
  refine block ?_
  refine loop (fun f w zz => ∃ (k : Nat), f 1 = .int .i64 i ∧ f 2 = .pointer (some ⟨b2, 0, none⟩) ∧ f 4 = .pointer (some ⟨b4, 0, none⟩) ∧ f 6 = .pointer (some ⟨b6, 0, none⟩) ∧ f 7 = .int .i64 (arrP t (twn t i) k).2 ∧ f 8 = .int .i64 (k : Int) ∧ StX [] w0 w [blk b6 (spanC (arrP t (twn t i) k).1) 44, blk b4 [.int .i64 0, .int .i64 0] 44, blk b2 [.int .i64 t.polders, .slice a1 t.chans.length cap1, .slice a2 t.towns.length cap2, .slice a3 t.floods.length cap3] 26] ∧ (k ≤ t.floods.length) ∧ zz = t.floods.length - k) _ ⟨_, rfl, 0, rfl, rfl, rfl, rfl, rfl, rfl, hS, (Nat.zero_le _), rfl⟩ ?_
  clear hS
  rintro f w _ ⟨k, h1, h2, h4, h6, h7, h8, hS, hk, rfl⟩
  refine seq ?_
  refine seq ?_
  refine region ?_
  refine sv (yMove h8) ?_
  refine sv (fa26_3 h2) ?_
  refine sv (yLdB rfl Tryz.isAgg24 (hS.at _) rfl) ?_
  refine sv (yLen rfl Tryz.underlying24) ?_
  refine sv (yLss rfl rfl) ?_
  refine nil ?_
  show Code.wp _ _ _ _ _
  refine cond rfl (fun c14 => ?_) (fun c14 => ?_)
  ·
    simp only [Bool.and_eq_true, Bool.or_eq_true, Bool.and_eq_false_iff, Bool.or_eq_false_iff, decide_eq_true_eq, decide_eq_false_iff_not, Bool.not_eq_true, Bool.not_eq_false, Bool.not_not, Bool.not_eq_eq_eq_not, Bool.not_true, Bool.not_false, Bool.false_eq_true, Bool.true_eq_false, ne_eq, Decidable.not_not, not_false_eq_true, not_true_eq_false] at c14
    obtain ⟨l, hl, -⟩ := drop_of (l := t.floods) (k := k) (by omega)
    obtain ⟨bl, ol, csl, hal, hll, hcsl, hRl, -⟩ := sl_at hsf hl
    obtain ⟨lv, rfl, hsl⟩ := hRl
    obtain ⟨al, cl2, rfl, -⟩ := id hsl
    obtain ⟨hpl, hfb⟩ := fld_at hok hi (List.mem_of_getElem? hl)
    obtain ⟨bp, op, csp, hap, hlp, hcsp, hRp, hpn⟩ := sl_at hsl hpl
    obtain ⟨rfl, -⟩ := hRp
    have hpb := arrP_bd hok hto k
    refine skip ?_
    show Code.wp _ _ _ _ _
    refine seq ?_
    refine block ?_
    refine seq ?_
    refine region_draw mixed (by kernel_rfl) hS ?_
    refine qv (fun w hS => (fa26_3 h2)) ?_
    refine qv (fun w hS => (yLdB rfl Tryz.isAgg24 (hS.at _) rfl)) ?_
    refine qv (fun w hS => (yMove h8)) ?_
    refine qv (fun w hS => (yIxa rfl hal rfl Tryz.runUnderlying24 Tryz.sizeOf34 (by omega) (by omega))) ?_
    refine qv (fun w hS => (yLd rfl Tryz.isAgg34 ((hcsl.ext hS.ext).one))) ?_
    refine qv (fun w hS => (fa26_2 h2)) ?_
    refine qv (fun w hS => (yLdB rfl Tryz.isAgg23 (hS.at _) rfl)) ?_
    refine qv (fun w hS => (yMove h1)) ?_
    refine qv (fun w hS => (yIxa rfl hat rfl Tryz.runUnderlying23 Tryz.sizeOf36 (by omega) (by omega))) ?_
    refine qv (fun w hS => (fa36_1 rfl)) ?_
    refine qv (fun w hS => (yLd rfl Tryz.isAgg3 ((hcst.ext hS.ext).at (j := 1) rfl))) ?_
    refine qv (fun w hS => (yIxa rfl hap rfl Tryz.runUnderlying34 Tryz.sizeOf3 (by omega) (by omega))) ?_
    refine qv (fun w hS => (yLd rfl Tryz.isAgg3 ((hcsp.ext hS.ext).one))) ?_
    refine qv (fun w hS => (yAsg rfl)) ?_
    clear hS; refine qnil (fun w hS => ?_)
    show Code.wp _ _ _ _ _
    refine seq ?_
    refine seq ?_
    refine region ?_
    refine sv (yMove rfl) ?_
    refine sv (yLss rfl rfl) ?_
    refine nil ?_
    show Code.wp _ _ _ _ _
    refine cond rfl (fun c31 => ?_) (fun c31 => ?_)
    ·
      simp only [Bool.and_eq_true, Bool.or_eq_true, Bool.and_eq_false_iff, Bool.or_eq_false_iff, decide_eq_true_eq, decide_eq_false_iff_not, Bool.not_eq_true, Bool.not_eq_false, Bool.not_not, Bool.not_eq_eq_eq_not, Bool.not_true, Bool.not_false, Bool.false_eq_true, Bool.true_eq_false, ne_eq, Decidable.not_not, not_false_eq_true, not_true_eq_false] at c31
      refine exit ?_
      show Code.wp _ _ _ _ _
      refine region ?_
      refine sv (yMove h8) ?_
      refine sv (yAdd rfl rfl ⟨by omega, by omega⟩) ?_
      refine sv (yAsg rfl) ?_
      refine nil ?_
      have e := (arrP_succ (x := twn t i) hl).trans (arrS_skip c31)
      exact ⟨_, _, rfl, ⟨k + 1, h1, h2, h4, h6, (h7.trans (congrArg (fun q : Bx.Span × Int => Value.int .i64 q.2) e).symm), rfl, (by rw [e]; exact hS), (by omega), rfl⟩, by omega⟩
    ·
      simp only [Bool.and_eq_true, Bool.or_eq_true, Bool.and_eq_false_iff, Bool.or_eq_false_iff, decide_eq_true_eq, decide_eq_false_iff_not, Bool.not_eq_true, Bool.not_eq_false, Bool.not_not, Bool.not_eq_eq_eq_not, Bool.not_true, Bool.not_false, Bool.false_eq_true, Bool.true_eq_false, ne_eq, Decidable.not_not, not_false_eq_true, not_true_eq_false] at c31
      refine skip ?_
      show Code.wp _ _ _ _ _
      refine seq ?_
      refine region ?_
      refine sv (yMove rfl) ?_
      refine sv (fa26_2 h2) ?_
      refine sv (yLdB rfl Tryz.isAgg23 (hS.at _) rfl) ?_
      refine sv (yMove h1) ?_
      refine sv (yIxa rfl hat rfl Tryz.runUnderlying23 Tryz.sizeOf36 (by omega) (by omega)) ?_
      refine sv (fa36_2 rfl) ?_
      refine sv (yLd rfl Tryz.isAgg3 ((hcst.ext hS.ext).at (j := 2) rfl)) ?_
      refine sv (yAdd rfl rfl ⟨by omega, by omega⟩) ?_
      refine sv (yAsg rfl) ?_
      refine nil ?_
      show Code.wp _ _ _ _ _
      refine seq ?_
      refine seq ?_
      refine region ?_
      refine sv (yMove h7) ?_
      refine sv (yEql rfl rfl) ?_
      refine nil ?_
      show Code.wp _ _ _ _ _
      refine cond rfl (fun c41 => ?_) (fun c41 => ?_)
      ·
        simp only [Bool.and_eq_true, Bool.or_eq_true, Bool.and_eq_false_iff, Bool.or_eq_false_iff, decide_eq_true_eq, decide_eq_false_iff_not, Bool.not_eq_true, Bool.not_eq_false, Bool.not_not, Bool.not_eq_eq_eq_not, Bool.not_true, Bool.not_false, Bool.false_eq_true, Bool.true_eq_false, ne_eq, Decidable.not_not, not_false_eq_true, not_true_eq_false] at c41
        refine region ?_
        refine sv (yMove rfl) ?_
        refine sv (yMove rfl) ?_
        refine sv (yBuild Tryz.zeroValue44 rfl pl44 (.cons rfl rfl (.cons rfl rfl .nil)) rfl) ?_
        refine sst hS h6 rfl Tryz.sizeOf44 rfl rfl rfl rfl ?_; clear hS; intro w hS
        refine nil ?_
        show Code.wp _ _ _ _ _
        refine seq ?_
        refine region ?_
        refine sv (fa44_0 h6) ?_
        refine sv (yLdB rfl Tryz.isAgg3 (hS.at _) rfl) ?_
        refine sv (yMove rfl) ?_
        refine sv (yMin rfl rfl) ?_
        refine sv (fa44_1 h6) ?_
        refine sv (yLdB rfl Tryz.isAgg3 (hS.at _) rfl) ?_
        refine sv (yMove rfl) ?_
        refine sv (yMax rfl rfl) ?_
        refine sv (yBuild Tryz.zeroValue44 rfl pl44 (.cons rfl rfl (.cons rfl rfl .nil)) rfl) ?_
        refine sst hS h6 rfl Tryz.sizeOf44 rfl rfl rfl rfl ?_; clear hS; intro w hS
        refine nil ?_
        show Code.wp _ _ _ _ _
        refine region ?_
        refine sv (yMove h7) ?_
        refine sv (yAdd rfl rfl ⟨by omega, by omega⟩) ?_
        refine sv (yAsg rfl) ?_
        refine nil ?_
        show Code.wp _ _ _ _ _
        refine region ?_
        refine sv (yMove h8) ?_
        refine sv (yAdd rfl rfl ⟨by omega, by omega⟩) ?_
        refine sv (yAsg rfl) ?_
        refine nil ?_
        have e := (arrP_succ (x := twn t i) hl).trans (arrS_zero c31 c41)
        exact ⟨_, _, rfl, ⟨k + 1, h1, h2, h4, h6, (rfl.trans (congrArg (fun q : Bx.Span × Int => Value.int .i64 q.2) e).symm), rfl, (by rw [e]; exact hS), (by omega), rfl⟩, by omega⟩
      ·
        simp only [Bool.and_eq_true, Bool.or_eq_true, Bool.and_eq_false_iff, Bool.or_eq_false_iff, decide_eq_true_eq, decide_eq_false_iff_not, Bool.not_eq_true, Bool.not_eq_false, Bool.not_not, Bool.not_eq_eq_eq_not, Bool.not_true, Bool.not_false, Bool.false_eq_true, Bool.true_eq_false, ne_eq, Decidable.not_not, not_false_eq_true, not_true_eq_false] at c41
        refine skip ?_
        show Code.wp _ _ _ _ _
        refine seq ?_
        refine region ?_
        refine sv (fa44_0 h6) ?_
        refine sv (yLdB rfl Tryz.isAgg3 (hS.at _) rfl) ?_
        refine sv (yMove rfl) ?_
        refine sv (yMin rfl rfl) ?_
        refine sv (fa44_1 h6) ?_
        refine sv (yLdB rfl Tryz.isAgg3 (hS.at _) rfl) ?_
        refine sv (yMove rfl) ?_
        refine sv (yMax rfl rfl) ?_
        refine sv (yBuild Tryz.zeroValue44 rfl pl44 (.cons rfl rfl (.cons rfl rfl .nil)) rfl) ?_
        refine sst hS h6 rfl Tryz.sizeOf44 rfl rfl rfl rfl ?_; clear hS; intro w hS
        refine nil ?_
        show Code.wp _ _ _ _ _
        refine region ?_
        refine sv (yMove h7) ?_
        refine sv (yAdd rfl rfl ⟨by omega, by omega⟩) ?_
        refine sv (yAsg rfl) ?_
        refine nil ?_
        show Code.wp _ _ _ _ _
        refine region ?_
        refine sv (yMove h8) ?_
        refine sv (yAdd rfl rfl ⟨by omega, by omega⟩) ?_
        refine sv (yAsg rfl) ?_
        refine nil ?_
        have e := (arrP_succ (x := twn t i) hl).trans (arrS_more c31 c41)
        exact ⟨_, _, rfl, ⟨k + 1, h1, h2, h4, h6, (rfl.trans (congrArg (fun q : Bx.Span × Int => Value.int .i64 q.2) e).symm), rfl, (by rw [e]; exact hS), (by omega), rfl⟩, by omega⟩
  ·
    simp only [Bool.and_eq_true, Bool.or_eq_true, Bool.and_eq_false_iff, Bool.or_eq_false_iff, decide_eq_true_eq, decide_eq_false_iff_not, Bool.not_eq_true, Bool.not_eq_false, Bool.not_not, Bool.not_eq_eq_eq_not, Bool.not_true, Bool.not_false, Bool.false_eq_true, Bool.true_eq_false, ne_eq, Decidable.not_not, not_false_eq_true, not_true_eq_false] at c14
    obtain rfl : k = t.floods.length := by omega
    rw [arrP_end] at hS h7
    refine exit ?_
    show Code.wp _ _ _ _ _
    refine seq ?_
    refine region ?_
    refine sv (yLdBA h6 Tryz.isAgg44 Tryz.sizeOf44 (hS.at _) rfl rfl) ?_
    refine sv (yMove h7) ?_
    refine sst hS h4 rfl Tryz.sizeOf44 rfl rfl rfl rfl ?_; clear hS; intro w hS
    refine sv (yAsg rfl) ?_
    refine nil ?_
    show Code.wp _ _ _ _ _
    refine wp_ret ?_
    exact retV (resV2 rfl (rc h4 Tryz.isAgg44 Tryz.sizeOf44 (hS.at _) rfl rfl) (rt rfl)) hS.ext
end Go.Proofs.YtmoilbakmlekbaaGreatDoor

/- part A26 -/
namespace Bx
open Go Go.RowKit
/-- What is better: which history is left out, how much more room, how much less delay, how much earlier. -/
structure Bett where
  hist : Int
  room : Int
  delay : Int
  earl : Int
structure ChkOk (t : Task) : Prop where
  pol : outB t.polders 0 6 = false
  nch : ¬ (4 : Int) < t.chans.length
  chs : ∀ c ∈ t.chans, isName c.name = true ∧ chanE c = 0
  chn : (t.chans.map (·.name)).Nodup
  ntw : ¬ (8 : Int) < t.towns.length
  tws : ∀ x ∈ t.towns, isName x.name = true ∧ townE t.polders t.chans.length x = 0
  twn : (t.towns.map (·.name)).Nodup
  nfl : outB t.floods.length 1 8 = false
  fls : ∀ l ∈ t.floods, floodE t.polders l = 0
end Bx

/- part A27 -/
namespace Bx
open Go Go.RowKit
/-- A log that is right, with nothing sent behind a tick. -/
structure LogOk (t : Task) (all : List Msg) (T : Int) : Prop where
  ok : wrongL t all 0 0 = 0
  sent : ∀ x ∈ all, x.sent ≤ T
theorem LogOk.msgs {t : Task} {all : List Msg} {T : Int} (h : LogOk t all T) : ∀ x ∈ all, MsgOk t x := (wrongL_ok all 0 0 (Int.le_refl _) h.ok).1
theorem sum_mono {g g' : Int → Int} : ∀ {l : List Int}, (∀ j ∈ l, g' j ≤ g j) → (l.map g').sum ≤ (l.map g).sum
  | [], _ => Int.le_refl _
  | x :: l, h => by
    have := sum_mono fun j hj => h j (List.mem_cons_of_mem x hj)
    have := h x (List.mem_cons_self ..)
    simp only [List.map_cons, List.sum_cons]; omega
def pot (t : Task) (all : List Msg) (T i : Int) : Int := (if lastF all i = stageF t i T then 0 else 1) + (if stageF t i T = 1 then 1 else 0)
def potS (t : Task) (all : List Msg) (T : Int) : Int := ((idxL t).map (pot t all T)).sum
theorem pot_bd (t : Task) (all : List Msg) (T i : Int) : 0 ≤ pot t all T i ∧ pot t all T i ≤ 2 := by unfold pot; split <;> split <;> omega
theorem potS_bd (t : Task) (all : List Msg) (T : Int) : 0 ≤ potS t all T ∧ potS t all T ≤ 2 * t.towns.length := by
  have h1 := sum_mono (l := idxL t) (g' := fun _ => 0) (g := pot t all T) fun j _ => (pot_bd t all T j).1
  have h2 := sum_mono (l := idxL t) (g := fun _ => 2) (g' := pot t all T) fun j _ => (pot_bd t all T j).2
  rw [sum_const] at h1 h2
  rw [idxL_len] at h1 h2
  unfold potS
  omega
def restA (t : Task) (log : List Msg) (now : Int) : Nat → List Msg
  | 0 => log
  | i + 1 => restA t log now i ++ nextF t (restA t log now i) (now + i)
structure RestI (t : Task) (log : List Msg) (now : Int) (i : Nat) : Prop where
  ok : wrongL t (restA t log now i) 0 0 = 0
  sent : ∀ x ∈ restA t log now i, x.sent < now + i
  few : ((restA t log now i).length : Int) + potS t (restA t log now i) (now + i) ≤ 116
theorem RestI.wrong {t : Task} {log : List Msg} {now : Int} {i : Nat} (h : RestI t log now i) : wrongF t (restA t log now i) = 0 := by
  have := h.few
  have := (potS_bd t (restA t log now i) (now + i)).1
  unfold wrongF
  rw [if_neg (by omega)]
  exact h.ok
theorem late_no {log : List Msg} {now : Int} (h : ∀ x ∈ log, x.sent ≤ now) (h0 : 0 ≤ now) : lateB log now = false := by
  unfold lateB
  rw [Bool.and_eq_false_iff]
  cases hq : log.getLast? with
  | none => exact .inr (by simpa using h0)
  | some z => exact .inr (by simpa using h z (List.mem_of_getLast? hq))
theorem RestI.next {t : Task} (hck : (checkA t).2.2 = 0) {log : List Msg} {now : Int} (hn : 0 ≤ now ∧ now ≤ 199800) {i : Nat} (hi : i < 40) (h : RestI t log now i) : nextR t (restA t log now i) (now + i) = (nextF t (restA t log now i) (now + i), 0) := by
  have e : nextE t (restA t log now i) (now + i) = 0 := by
    unfold nextE
    rw [if_neg (fun k => k hck), if_neg (fun k => k h.wrong), if_neg]
    rw [outB_false.2 (show 0 ≤ now + (i : Int) ∧ now + (i : Int) ≤ 200000 by omega), late_no (fun x hx => by have := h.sent x hx; omega) (by omega)]
    decide
  unfold nextR
  rw [if_neg (fun k => k e)]
end Bx

/- part A28 -/
namespace Bx
open Go Go.RowKit
def pasR (lt : Int → Int → Bool) (l : List Int) : List Int := l.foldl (fun p x => passV lt x p) []
theorem pasR_step (lt : Int → Int → Bool) {l : List Int} {i : Nat} {x : Int} (h : l[i]? = some x) : pasR lt (l.take (i + 1)) = passV lt x (pasR lt (l.take i)) := by unfold pasR; rw [take_snoc h, List.foldl_append]; rfl
theorem pas_start (lt : Int → Int → Bool) (l : List Int) : (pasR lt (l.take 1)).reverse ++ l.drop 1 = l := by
  cases l with
  | nil => rfl
  | cons x l => rfl
theorem pas_end {lt : Int → Int → Bool} {l : List Int} {i : Nat} (h : l.length ≤ i) : (pasR lt (l.take i)).reverse ++ l.drop i = sortP lt l := by
  rw [List.take_of_length_le h, List.drop_of_length_le h, List.append_nil]; rfl
theorem passV_perm (lt : Int → Int → Bool) : ∀ (p : List Int) (b : Int), (passV lt b p).Perm (b :: p)
  | [], _ => List.Perm.refl _
  | a :: p, b => by
    rw [passV]
    split
    · exact ((passV_perm lt p b).cons a).trans (List.Perm.swap b a p)
    · exact (passV_perm lt p a).cons b
theorem pasR_perm (lt : Int → Int → Bool) (l : List Int) : (pasR lt l).Perm l := by
  induction l using snocR with
  | h0 => exact List.Perm.refl _
  | h1 l x ih =>
    have e : pasR lt (l ++ [x]) = passV lt x (pasR lt l) := by unfold pasR; rw [List.foldl_append]; rfl
    rw [e]
    exact (passV_perm lt _ x).trans ((ih.cons x).trans (List.perm_append_comm (l₁ := [x]) (l₂ := l)))
theorem snoc_ex {l : List Int} (h : 0 < l.length) : ∃ k a, l = k ++ [a] := by
  obtain ⟨y, hy⟩ := last_ex l
  obtain ⟨k, e⟩ := last_split h (hy h)
  exact ⟨k, y, e⟩
theorem pass_yes {lt : Int → Int → Bool} {b a : Int} {k : List Int} (h : lt b a = true) : passV lt b ((k ++ [a]).reverse) = a :: passV lt b k.reverse := by
  rw [List.reverse_append]; exact if_pos h
theorem pass_not {lt : Int → Int → Bool} {b a : Int} {k : List Int} (h : lt b a = false) : passV lt b ((k ++ [a]).reverse) = b :: passV lt a k.reverse := by
  rw [List.reverse_append]; exact if_neg (by rw [h]; decide)
theorem swap_set2 (ks js r : List Int) (x y : Int) : ((ks ++ [y] ++ [x] ++ js ++ r).set ks.length x).set (ks.length + 1) y = ks ++ [x] ++ (y :: js) ++ r := by
  rw [List.set_comm _ _ (by omega)]; exact swap_set ks js r x y
theorem in_a (k js r : List Int) (a b : Int) : (k ++ [a] ++ [b] ++ js ++ r)[k.length]? = some a := by
  rw [List.append_assoc, List.append_assoc, List.append_assoc, List.getElem?_append_right (Nat.le_refl _)]; simp
theorem in_b (k js r : List Int) (a b : Int) : (k ++ [a] ++ [b] ++ js ++ r)[k.length + 1]? = some b := by
  have := inn_mid (k ++ [a]) js r b
  rwa [List.length_append, List.length_singleton] at this
theorem LogOk.i64 {t : Task} (ht : TaskOk t) {all : List Msg} {T : Int} (h : LogOk t all T) (hl : all.length ≤ 100000) : ∀ m ∈ all, MsgI m := fun m hm => by
  have h1 := h.msgs m hm
  obtain ⟨k, hk, rfl⟩ := List.getElem_of_mem hm
  have h2 := (wrongL_ok all 0 0 (Int.le_refl _) h.ok).2.1 k _ (List.getElem?_eq_getElem hk)
  have h3 := h1.town
  have h4 := h1.stage
  have h5 := h1.chan
  have h6 := h1.sent
  have := ht.ntw
  have := ht.nch
  refine ⟨⟨by omega, by omega⟩, ⟨by omega, by omega⟩, ⟨by omega, by omega⟩, ⟨by omega, by omega⟩, ⟨by omega, by omega⟩⟩
end Bx

/- part Aw33 -/
namespace Go.Proofs.YtmoilbakmlekbaaGreatDoor
open Go Bx
/-- barrage/barrageref11.earliest -/
theorem c_rearl {t : Task} {hv nv fv : Value} {i : Int} {w0 : World} (h : RTask w0 [.int .i64 t.polders, hv, nv, fv] t) (hok : TaskOk t) (hi : 0 ≤ i ∧ i < t.towns.length) : CV Tryz.prog 80 #[.agg [.int .i64 t.polders, hv, nv, fv].toArray, .int .i64 i] w0 (.int .i64 (arr t i).1.lo) := by
  obtain ⟨hv', nv', fv', he0, hpol, hsh, hsn, hsf⟩ := id h
  obtain ⟨rfl, rfl, rfl⟩ : hv' = hv ∧ nv' = nv ∧ fv' = fv := by simpa [eq_comm] using he0
  obtain ⟨a1, cap1, rfl, hcap1, hmx1, hel1⟩ := id hsh
  obtain ⟨a2, cap2, rfl, hcap2, hmx2, hel2⟩ := id hsn
  obtain ⟨a3, cap3, rfl, hcap3, hmx3, hel3⟩ := id hsf
  refine enter Tryz.func80 rfl Tryz.ntmps80 rfl ?_
  have hS := St.start w0
  refine seq ?_
  refine region ?_
  refine sbox hS rfl rfl ?_; clear hS; intro b2 w hS
  refine sv (yAsg rfl) ?_
  refine nil ?_
  show Code.wp _ _ _ _ _
  refine seq ?_
  refine region ?_
  refine sv (yLdBA rfl Tryz.isAgg26 Tryz.sizeOf26 (hS.at _) rfl rfl) ?_
  refine sv (yMove rfl) ?_
  refine scall Tryz.call71 (.cons rfl (.cons rfl .nil)) (c_rarr (h.ext hS.ext) hok hi) ?_
  rintro _ w ⟨rfl, hE⟩; replace hS := hS.step hE; clear hE
  refine sv (yMove rfl) ?_
  refine sv (yExt rfl rfl) ?_
  refine sv (yExt rfl rfl) ?_
  refine salloc hS Tryz.zeroValue44 rfl ?_; clear hS; intro b5 w hS
  refine sst hS rfl rfl Tryz.sizeOf44 rfl rfl rfl rfl ?_; clear hS; intro w hS
  refine sv (yAsg rfl) ?_
  refine nil ?_
  show Code.wp _ _ _ _ _
  refine seq ?_
  refine region ?_
  refine sv (fa44_0 rfl) ?_
  refine sv (yLdB rfl Tryz.isAgg3 (hS.at _) rfl) ?_
  refine sv (yAsg rfl) ?_
  refine nil ?_
  show Code.wp _ _ _ _ _
  refine wp_ret ?_
  exact retV (res1 rfl rfl) hS.ext
set_option maxHeartbeats 2000000 in
/-- barrage/barrageref11.byEarliest -/
theorem c_rbyE {t : Task} {hv nv fv : Value} {l : List Int} {v : Value} {w0 : World} (h : RTask w0 [.int .i64 t.polders, hv, nv, fv] t) (hok : TaskOk t) (hl0 : Sl w0 1 RInt v l) (hm : ∀ i ∈ l, 0 ≤ i ∧ i < t.towns.length) (hlen : l.length ≤ 1000) : CE Tryz.prog 78 #[.agg [.int .i64 t.polders, hv, nv, fv].toArray, v] w0 (fun u w' => St w0 w' [rowI u 3 1 l.length ((sortP (ltE (fun i => (arr t i).1.lo)) l).flatMap Bx.encI)]) := by
  obtain ⟨hv', nv', fv', he0, hpol, hsh, hsn, hsf⟩ := id h
  obtain ⟨rfl, rfl, rfl⟩ : hv' = hv ∧ nv' = nv ∧ fv' = fv := by simpa [eq_comm] using he0
  obtain ⟨a1, cap1, rfl, hcap1, hmx1, hel1⟩ := id hsh
  obtain ⟨a2, cap2, rfl, hcap2, hmx2, hel2⟩ := id hsn
  obtain ⟨a3, cap3, rfl, hcap3, hmx3, hel3⟩ := id hsf
  obtain ⟨av, cv, rfl, hvcap, hvmx, hvel⟩ := id hl0
  refine enter Tryz.func78 rfl Tryz.ntmps78 rfl ?_
  have hS := St.start w0
  refine seq ?_
  refine region ?_
  refine sbox hS rfl rfl ?_; clear hS; intro b2 w hS
  refine sv (yAsg rfl) ?_
  refine nil ?_
  show Code.wp _ _ _ _ _
  refine seq ?_
  refine region ?_
  refine sbslice0 hS Tryz.underlying34 Tryz.sizeOf3 ?_; clear hS; intro b10 w hS
  refine sv (yMove rfl) ?_
  refine sappS (bytes := 8) (size := 1) hS rfl rfl Tryz.underlying34 ti3 rfl rfl rfl rfl (by decide) Tryz.sizeOf3 (fun hh => by obtain ⟨bd, od, e1, e2⟩ := ints_news hl0 hh; exact ⟨bd, od, e1, e2.ext hS.ext⟩) (by rw [flat_len encI_len]) (ints_one l) (by omega) (by omega) ?_; clear hS; intro v12 w hS; rw [Nat.zero_add, List.nil_append] at hS
  obtain ⟨ao, co, rfl⟩ := row_shape (hS.row v12)
  refine sv (yAsg rfl) ?_
  refine nil ?_
  show Code.wp _ _ _ _ _
  refine seq ?_
  refine seq ?_
  refine region ?_
  refine sv (yAsg rfl) ?_
  refine nil ?_
  show Code.wp _ _ _ _ _
  refine block ?_
  refine loop (fun f w zz => ∃ (i : Nat), f 2 = .pointer (some ⟨b2, 0, none⟩) ∧ f 5 = .slice ao l.length co ∧ f 6 = .int .i64 (i : Int) ∧ StX [] w0 w [rowI (.slice ao l.length co) 3 1 l.length (((pasR (ltE (fun i => (arr t i).1.lo)) (l.take i)).reverse ++ l.drop i).flatMap Bx.encI), blk b2 [.int .i64 t.polders, .slice a1 t.chans.length cap1, .slice a2 t.towns.length cap2, .slice a3 t.floods.length cap3] 26] ∧ (1 ≤ i ∧ i ≤ l.length + 1) ∧ zz = l.length + 1 - i) _ ⟨_, rfl, 1, rfl, rfl, rfl, (by rw [pas_start]; exact hS), (⟨Nat.le_refl _, by omega⟩), rfl⟩ ?_
  clear hS
  rintro f w _ ⟨i, h2, h5, h6, hS, hi, rfl⟩
  refine seq ?_
  refine seq ?_
  refine region ?_
  refine sv (yMove h6) ?_
  refine sv (yMove h5) ?_
  refine sv (yLen rfl Tryz.underlying34) ?_
  refine sv (yLss rfl rfl) ?_
  refine nil ?_
  show Code.wp _ _ _ _ _
  refine cond rfl (fun c16 => ?_) (fun c16 => ?_)
  ·
    simp only [Bool.and_eq_true, Bool.or_eq_true, Bool.and_eq_false_iff, Bool.or_eq_false_iff, decide_eq_true_eq, decide_eq_false_iff_not, Bool.not_eq_true, Bool.not_eq_false, Bool.not_not, Bool.not_eq_eq_eq_not, Bool.not_true, Bool.not_false, Bool.false_eq_true, Bool.true_eq_false, ne_eq, Decidable.not_not, not_false_eq_true, not_true_eq_false] at c16
    obtain ⟨x, hx, hd⟩ := drop_of (l := l) (k := i) (by omega)
    obtain ⟨gb, rfl, -⟩ := row_get (hS.row (.slice ao l.length co)) (by omega)
    have hxm := List.mem_of_getElem? hx
    refine skip ?_
    show Code.wp _ _ _ _ _
    refine seq ?_
    refine block ?_
    refine seq ?_
    refine region ?_
    refine sv (yMove h6) ?_
    refine sv (yAsg rfl) ?_
    refine nil ?_
    show Code.wp _ _ _ _ _
    refine block ?_
    have hsl : (pasR (ltE (fun i => (arr t i).1.lo)) (l.take i)).length = i := by rw [(pasR_perm _ _).length_eq]; simp; omega
    refine loop (fun f w zz => ∃ (b : Int) (ks js : List Int), f 2 = .pointer (some ⟨b2, 0, none⟩) ∧ f 5 = .slice (some ⟨gb, 0, none⟩) l.length co ∧ f 6 = .int .i64 (i : Int) ∧ f 7 = .int .i64 (ks.length : Int) ∧ StX [] w0 w [rowI (.slice (some ⟨gb, 0, none⟩) l.length co) 3 1 l.length ((ks ++ [b] ++ js ++ l.drop (i + 1)).flatMap Bx.encI), blk b2 [.int .i64 t.polders, .slice a1 t.chans.length cap1, .slice a2 t.towns.length cap2, .slice a3 t.floods.length cap3] 26] ∧ (ks.length + js.length = i) ∧ (passV (ltE (fun i => (arr t i).1.lo)) x (pasR (ltE (fun i => (arr t i).1.lo)) (l.take i)) = js.reverse ++ passV (ltE (fun i => (arr t i).1.lo)) b ks.reverse) ∧ (b ∈ l) ∧ (∀ z ∈ ks, z ∈ l) ∧ zz = ks.length) _ ⟨_, rfl, x, (pasR (ltE (fun i => (arr t i).1.lo)) (l.take i)).reverse, [], h2, h5, h6, (by rw [List.length_reverse, hsl]; exact rfl), (by rw [List.append_nil, List.append_assoc, List.singleton_append, ← hd]; exact hS), (by simp [hsl]), (by rw [List.reverse_reverse]; rfl), (hxm), (fun z hz => List.mem_of_mem_take ((pasR_perm _ _).mem_iff.1 (List.mem_reverse.1 hz))), rfl⟩ ?_
    clear hS
    rintro f w _ ⟨b, ks, js, h2, h5, h6, h7, hS, hl, hI, hbm, hks, rfl⟩
    refine seq ?_
    refine seq ?_
    refine region ?_
    refine sv (yMove h7) ?_
    refine sv (yGtr rfl rfl) ?_
    refine nil ?_
    show Code.wp _ _ _ _ _
    refine cond rfl (fun c21 => ?_) (fun c21 => ?_)
    ·
      simp only [Bool.and_eq_true, Bool.or_eq_true, Bool.and_eq_false_iff, Bool.or_eq_false_iff, decide_eq_true_eq, decide_eq_false_iff_not, Bool.not_eq_true, Bool.not_eq_false, Bool.not_not, Bool.not_eq_eq_eq_not, Bool.not_true, Bool.not_false, Bool.false_eq_true, Bool.true_eq_false, ne_eq, Decidable.not_not, not_false_eq_true, not_true_eq_false] at c21
      obtain ⟨k2, a, rfl⟩ := snoc_ex (l := ks) (by omega)
      have ham := hks a (by simp)
      have hbi := hm b hbm
      have hai := hm a ham
      have hkl : k2.length + 1 + js.length = i := by simpa using hl
      have hga := in_a k2 js (l.drop (i + 1)) a b
      have hgb := in_b k2 js (l.drop (i + 1)) a b
      refine skip ?_
      show Code.wp _ _ _ _ _
      refine seq ?_
      refine block ?_
      refine seq ?_
      refine region_draw mixed (by kernel_rfl) hS ?_
      replace hS : StX [] w0 w [rowI (.slice (some ⟨gb, 0, none⟩) l.length co) 3 1 l.length ((k2 ++ [a] ++ [b] ++ js ++ l.drop (i + 1)).flatMap Bx.encI), blk b2 [.int .i64 t.polders, .slice a1 t.chans.length cap1, .slice a2 t.towns.length cap2, .slice a3 t.floods.length cap3] 26] := hS
      refine qv (fun w hS => (yMove h5)) ?_
      refine qv (fun w hS => (yMove h7)) ?_
      refine qv (fun w hS => (ySub rfl rfl ⟨by omega, by omega⟩)) ?_
      refine qv (fun w hS => (yIx0 (m := k2.length) rfl (rfl.trans (congrArg (Value.int .i64) (by simp))) Tryz.runUnderlying34 Tryz.sizeOf3 (by omega))) ?_
      refine qv (fun w hS => (yLd rfl Tryz.isAgg3 ((flat_cells0 (enc := Bx.encI) encI_len (row_at (hS.row (.slice (some ⟨gb, 0, none⟩) l.length co)) rfl (by omega)) hga).one))) ?_
      refine qv (fun w hS => (yMove h5)) ?_
      refine qv (fun w hS => (yMove h7)) ?_
      refine qv (fun w hS => (yIx0 (m := k2.length + 1) rfl (rfl.trans (congrArg (Value.int .i64) (by simp))) Tryz.runUnderlying34 Tryz.sizeOf3 (by omega))) ?_
      refine qv (fun w hS => (yLd rfl Tryz.isAgg3 ((flat_cells0 (enc := Bx.encI) encI_len (row_at (hS.row (.slice (some ⟨gb, 0, none⟩) l.length co)) rfl (by omega)) hgb).one))) ?_
      refine qv (fun w hS => (yAsg rfl)) ?_
      refine qv (fun w hS => (yAsg rfl)) ?_
      clear hS; refine qnil (fun w hS => ?_)
      show Code.wp _ _ _ _ _
      refine seq ?_
      refine region_draw mixed (by kernel_rfl) hS ?_
      refine qv (fun w hS => (yLdBA h2 Tryz.isAgg26 Tryz.sizeOf26 (hS.at _) rfl rfl)) ?_
      refine qv (fun w hS => (yMove rfl)) ?_
      refine qcall Tryz.call80 (.cons rfl (.cons rfl .nil)) (fun w hS => (c_rearl (h.ext hS.ext) hok hbi)) ?_
      refine qv (fun w hS => (yLdBA h2 Tryz.isAgg26 Tryz.sizeOf26 (hS.at _) rfl rfl)) ?_
      refine qv (fun w hS => (yMove rfl)) ?_
      refine qcall Tryz.call80 (.cons rfl (.cons rfl .nil)) (fun w hS => (c_rearl (h.ext hS.ext) hok hai)) ?_
      refine qv (fun w hS => (yLss rfl rfl)) ?_
      refine qv (fun w hS => (yMove rfl)) ?_
      refine qg rfl rfl rfl (fun g w hS => (yLdBA h2 Tryz.isAgg26 Tryz.sizeOf26 (hS.at _) rfl rfl)) (fun v41 g41 => ?_)
      refine qg rfl rfl rfl (fun g w hS => (yMove rfl)) (fun v42 g42 => ?_)
      refine qgc rfl rfl rfl Tryz.call80 (fun g => (.cons (g41.1 g) (.cons (g42.1 g) .nil))) (fun g w hS => (c_rearl (h.ext hS.ext) hok hbi)) (fun v43 g43 => ?_)
      refine qg rfl rfl rfl (fun g w hS => (yLdBA h2 Tryz.isAgg26 Tryz.sizeOf26 (hS.at _) rfl rfl)) (fun v44 g44 => ?_)
      refine qg rfl rfl rfl (fun g w hS => (yMove rfl)) (fun v45 g45 => ?_)
      refine qgc rfl rfl rfl Tryz.call80 (fun g => (.cons (g44.1 g) (.cons (g45.1 g) .nil))) (fun g w hS => (c_rearl (h.ext hS.ext) hok hai)) (fun v46 g46 => ?_)
      refine qg rfl rfl rfl (fun g w hS => (yEql (g43.1 g) (g46.1 g))) (fun v47 g47 => ?_)
      refine qg rfl rfl rfl (fun g w hS => (yMove (g47.1 g))) (fun v48 g48 => ?_)
      refine qgg rfl rfl g48 (fun g w hS => (yMove rfl)) (fun v49 g49 => ?_)
      refine qgg rfl rfl g48 (fun g w hS => (yMove rfl)) (fun v50 g50 => ?_)
      refine qgg rfl rfl g48 (fun g w hS => (yLss (g49.1 g) (g50.1 g))) (fun v51 g51 => ?_)
      refine qg rfl rfl rfl (fun g w hS => (yAnd (g48.1 g) (fun hB => (g51.1 ⟨g, hB⟩)) rfl)) (fun v52 g52 => ?_)
      refine qv (fun w hS => (yOr rfl rfl (fun hB => (g52.1 hB)))) ?_
      clear hS; refine qnil (fun w hS => ?_)
      show Code.wp _ _ _ _ _
      refine cond rfl (fun c53 => ?_) (fun c53 => ?_)
      ·
        refine region ?_
        refine sv (yMove h5) ?_
        refine sv (yMove h7) ?_
        refine sv (ySub rfl rfl ⟨by omega, by omega⟩) ?_
        refine sv (yMove h5) ?_
        refine sv (yMove h7) ?_
        refine sv (yMove rfl) ?_
        refine sv (yMove rfl) ?_
        refine sv (yIx0 (m := k2.length) rfl (rfl.trans (congrArg (Value.int .i64) (by simp))) Tryz.runUnderlying34 Tryz.sizeOf3 (by omega)) ?_
        refine srst (m := l.length) (cap := co) (sz := 1) hS rfl rfl Tryz.sizeOf3 rfl rfl (by omega) rfl ?_; clear hS; intro w hS
        refine sv (yIx0 (m := k2.length + 1) rfl (rfl.trans (congrArg (Value.int .i64) (by simp))) Tryz.runUnderlying34 Tryz.sizeOf3 (by omega)) ?_
        refine srst (m := l.length) (cap := co) (sz := 1) hS rfl rfl Tryz.sizeOf3 rfl rfl (by omega) rfl ?_; clear hS; intro w hS
        replace hS : StX [] w0 w [rowI (.slice (some ⟨gb, 0, none⟩) l.length co) 3 1 l.length ((k2 ++ [b] ++ (a :: js) ++ l.drop (i + 1)).flatMap Bx.encI), blk b2 [.int .i64 t.polders, .slice a1 t.chans.length cap1, .slice a2 t.towns.length cap2, .slice a3 t.floods.length cap3] 26] := by
          have e1 := splice_enc (enc := Bx.encI) encI_len (k2 ++ [a] ++ [b] ++ js ++ l.drop (i + 1)) k2.length b (by simp)
          have e2 := splice_enc (enc := Bx.encI) encI_len ((k2 ++ [a] ++ [b] ++ js ++ l.drop (i + 1)).set k2.length b) (k2.length + 1) a (by simp)
          rw [← e1, swap_set2] at e2
          rw [← e2]; exact hS
        refine nil ?_
        show Code.wp _ _ _ _ _
        refine region ?_
        refine sv (yMove h7) ?_
        refine sv (ySub rfl rfl ⟨by omega, by omega⟩) ?_
        refine sv (yAsg rfl) ?_
        refine nil ?_
        exact ⟨_, _, rfl, ⟨b, k2, a :: js, h2, h5, h6, (rfl.trans (congrArg (Value.int .i64) (by simp))), hS, (by simp at hl ⊢; omega), (by rw [hI, pass_yes c53, List.reverse_cons, List.append_assoc]; rfl), (hbm), (fun z hz => hks z (by simp [hz])), rfl⟩, by simp⟩
      ·
        refine skip ?_
        show Code.wp _ _ _ _ _
        refine region ?_
        refine sv (yMove h7) ?_
        refine sv (ySub rfl rfl ⟨by omega, by omega⟩) ?_
        refine sv (yAsg rfl) ?_
        refine nil ?_
        exact ⟨_, _, rfl, ⟨a, k2, b :: js, h2, h5, h6, (rfl.trans (congrArg (Value.int .i64) (by simp))), (by rw [show k2 ++ [a] ++ (b :: js) ++ l.drop (i + 1) = k2 ++ [a] ++ [b] ++ js ++ l.drop (i + 1) by simp]; exact hS), (by simp at hl ⊢; omega), (by rw [hI, pass_not c53, List.reverse_cons, List.append_assoc]; rfl), (ham), (fun z hz => hks z (by simp [hz])), rfl⟩, by simp⟩
    ·
      simp only [Bool.and_eq_true, Bool.or_eq_true, Bool.and_eq_false_iff, Bool.or_eq_false_iff, decide_eq_true_eq, decide_eq_false_iff_not, Bool.not_eq_true, Bool.not_eq_false, Bool.not_not, Bool.not_eq_eq_eq_not, Bool.not_true, Bool.not_false, Bool.false_eq_true, Bool.true_eq_false, ne_eq, Decidable.not_not, not_false_eq_true, not_true_eq_false] at c21
      obtain rfl : ks = [] := List.eq_nil_of_length_eq_zero (by omega)
      have hfin : (pasR (ltE (fun i => (arr t i).1.lo)) (l.take (i + 1))).reverse ++ l.drop (i + 1) = [] ++ [b] ++ js ++ l.drop (i + 1) := by rw [pasR_step _ hx, hI]; simp [passV]
      refine exit ?_
      show Code.wp _ _ _ _ _
      refine region ?_
      refine sv (yMove h6) ?_
      refine sv (yAdd rfl rfl ⟨by omega, by omega⟩) ?_
      refine sv (yAsg rfl) ?_
      refine nil ?_
      exact ⟨_, _, rfl, ⟨i + 1, h2, h5, rfl, (by rw [hfin]; exact hS), (⟨by omega, by omega⟩), rfl⟩, by omega⟩
  ·
    simp only [Bool.and_eq_true, Bool.or_eq_true, Bool.and_eq_false_iff, Bool.or_eq_false_iff, decide_eq_true_eq, decide_eq_false_iff_not, Bool.not_eq_true, Bool.not_eq_false, Bool.not_not, Bool.not_eq_eq_eq_not, Bool.not_true, Bool.not_false, Bool.false_eq_true, Bool.true_eq_false, ne_eq, Decidable.not_not, not_false_eq_true, not_true_eq_false] at c16
    have hfin : (pasR (ltE (fun i => (arr t i).1.lo)) (l.take i)).reverse ++ l.drop i = sortP (ltE (fun i => (arr t i).1.lo)) l := pas_end (by omega)
    refine exit ?_
    show Code.wp _ _ _ _ _
    refine seq ?_
    refine region ?_
    refine sv (yMove h5) ?_
    refine sv (yAsg rfl) ?_
    refine nil ?_
    show Code.wp _ _ _ _ _
    refine wp_ret ?_
    refine retQ (res1 rfl rfl) ?_
    rw [hfin] at hS
    exact hS.sub (.cons_cons _ (List.nil_sublist _))
end Go.Proofs.YtmoilbakmlekbaaGreatDoor

/- part A29 -/
namespace Bx
open Go Go.RowKit
theorem Rows.app {α : Type} {w : World} {k : Nat} {R : World → List Value → α → Prop} : ∀ {c1 c2 : List (List Value)} {l1 l2 : List α}, Bx.Rows w k R c1 l1 → Bx.Rows w k R c2 l2 → Bx.Rows w k R (c1 ++ c2) (l1 ++ l2)
  | [], _, [], _, _, h => h
  | _ :: _, _, _ :: _, _, ⟨h1, h2, h3⟩, h => ⟨h1, h2, Rows.app h3 h⟩
  | [], _, _ :: _, _, h, _ => h.elim
  | _ :: _, _, [], _, h, _ => h.elim
end Bx

/- part LibB2 -/
namespace Bx
open Go Go.RowKit
theorem StX.takeI {S : List Nat} {w0 w : World} {A B L : List Item} {x : Item} (h : StX S w0 w (packI (A ++ x :: B) :: L)) : StX S w0 w (x :: packI (A ++ B) :: L) := by
  have h1 := h.unpack
  have h2 : StX S w0 w ((A ++ B) ++ (x :: L)) := h1.perm (by
    rw [List.append_assoc, List.append_assoc, List.cons_append]
    refine List.Perm.append_left A ?_
    exact (List.perm_middle (a := x) (l₁ := B) (l₂ := L)).symm)
  exact h2.pack.perm (List.Perm.swap _ _ _)
theorem StX.putI {S : List Nat} {w0 w : World} {A B L : List Item} {x : Item} (h : StX S w0 w (x :: packI (A ++ B) :: L)) : StX S w0 w (packI (A ++ x :: B) :: L) := by
  have h1 := (h.perm (List.Perm.swap _ _ _)).unpack
  have h2 : StX S w0 w ((A ++ x :: B) ++ L) := h1.perm (by
    rw [List.append_assoc, List.append_assoc, List.cons_append]
    refine List.Perm.append_left A ?_
    exact List.perm_middle (a := x) (l₁ := B) (l₂ := L))
  exact h2.pack
/-- The inner rows of numbers. -/
def inR (v : Value) (z : List Int) : Item := rowI v 3 1 z.length (z.flatMap encI)
def inI (vs : List Value) (zs : List (List Int)) : List Item := List.zipWith inR vs zs
theorem inI_snoc {vs : List Value} {zs : List (List Int)} (h : vs.length = zs.length) (v : Value) (z : List Int) : inI (vs ++ [v]) (zs ++ [z]) = inI vs zs ++ [inR v z] := by
  unfold inI
  rw [List.zipWith_append h]; rfl
theorem inI_split {vs : List Value} {zs : List (List Int)} {k : Nat} {v : Value} {z : List Int} (hv : vs[k]? = some v) (hz : zs[k]? = some z) : inI vs zs = inI (vs.take k) (zs.take k) ++ inR v z :: inI (vs.drop (k + 1)) (zs.drop (k + 1)) := by
  have e1 : vs = vs.take k ++ v :: vs.drop (k + 1) := by
    have := cut_at hv
    rw [List.append_assoc, List.singleton_append] at this
    exact this.symm
  have e2 : zs = zs.take k ++ z :: zs.drop (k + 1) := by
    have := cut_at hz
    rw [List.append_assoc, List.singleton_append] at this
    exact this.symm
  have hl : (vs.take k).length = (zs.take k).length := by
    have h1 := (List.getElem?_eq_some_iff.1 hv).1
    have h2 := (List.getElem?_eq_some_iff.1 hz).1
    rw [List.length_take, List.length_take]; omega
  unfold inI
  conv => lhs; rw [e1, e2]
  rw [List.zipWith_append hl]; rfl
theorem inI_set {vs : List Value} {zs : List (List Int)} {k : Nat} {v v' : Value} {z z' : List Int} (hv : vs[k]? = some v) (hz : zs[k]? = some z) : inI (vs.set k v') (zs.set k z') = inI (vs.take k) (zs.take k) ++ inR v' z' :: inI (vs.drop (k + 1)) (zs.drop (k + 1)) := by
  have h1 := (List.getElem?_eq_some_iff.1 hv).1
  have h2 := (List.getElem?_eq_some_iff.1 hz).1
  rw [inI_split (vs := vs.set k v') (zs := zs.set k z') (k := k) (v := v') (z := z') (by rw [List.getElem?_set_self h1]) (by rw [List.getElem?_set_self h2])]
  rw [List.take_set, List.take_set, List.set_eq_of_length_le (by rw [List.length_take]; omega), List.set_eq_of_length_le (by rw [List.length_take]; omega), List.drop_set_of_lt (by omega), List.drop_set_of_lt (by omega)]
theorem inI_get {vs : List Value} {zs : List (List Int)} {k : Nat} {v : Value} {z : List Int} (hv : vs[k]? = some v) (hz : zs[k]? = some z) : inR v z ∈ inI vs zs := by
  rw [inI_split hv hz]; simp
/-- What rows of rows say, read as a slice of slices. -/
theorem sl_rows2 {R : World → List Value → List Int → Prop} (hR : ∀ w v z, Sl w 1 RInt v z → R w [v] z) {w : World} {E : TypeId} {lv : Value} {vs : List Value} {zs : List (List Int)} (hl : vs.length = zs.length) (hrow : w.ownsRow 0 E 1 lv zs.length vs) (hin : ∀ it ∈ inI vs zs, it.ok w) (hz : ∀ z ∈ zs, ∀ x ∈ z, I64 x) : Sl w 1 R lv zs := by
  have key : ∀ (vs : List Value) (zs : List (List Int)), vs.length = zs.length → (∀ it ∈ inI vs zs, it.ok w) → (∀ z ∈ zs, ∀ x ∈ z, I64 x) → Bx.Rows w 1 R (vs.map fun v => [v]) zs := by
    intro vs
    induction vs with
    | nil => intro zs h _ _; cases zs with
      | nil => trivial
      | cons z zs => simp at h
    | cons v vs ih => intro zs h h1 h2; cases zs with
      | nil => simp at h
      | cons z zs =>
        have h0 : (inR v z).ok w := h1 _ (by unfold inI; rw [List.zipWith_cons_cons]; exact List.mem_cons_self ..)
        have hr : w.ownsRow 0 3 1 v z.length (z.flatMap encI) := h0
        exact ⟨rfl, hR _ _ _ (sl_ints hr rfl (h2 z (List.mem_cons_self ..))), ih zs (by simpa using h) (fun it hit => h1 it (by unfold inI; rw [List.zipWith_cons_cons]; exact List.mem_cons_of_mem _ hit)) (fun y hy => h2 y (List.mem_cons_of_mem _ hy))⟩
  have e : ∀ vs : List Value, (vs.map fun v => [v]).flatten = vs := by
    intro vs
    induction vs with
    | nil => rfl
    | cons v vs ih => rw [List.map_cons, List.flatten_cons, ih]; rfl
  exact sl_of_row (by rw [e]; exact hrow) (key vs zs hl hin hz) rfl
end Bx
namespace Bx
open Go Go.RowKit
theorem out_cell {w : World} {g z : Nat} {vs : List Value} {v : Value} (h : Cells w g 0 vs) (hv : vs[z]? = some v) : w.cell? ⟨g, z * 1, none⟩ = some v := by
  have := h z v hv
  rwa [Nat.zero_add, ← Nat.mul_one z] at this
theorem splice_one {vs : List Value} {z : Nat} {v : Value} (h : z < vs.length) : splice vs (z * 1) [v] = vs.set z v := by
  unfold splice
  rw [Nat.mul_one, List.set_eq_take_append_cons_drop, if_pos h]
  simp
end Bx

/- part A31 -/
namespace Bx
open Go Go.RowKit
def zoneZ (t : Task) (now wd i : Int) : Int := max 0 ((arr t i).1.lo - now) / wd
def padZ (zs : List (List Int)) (m : Nat) : List (List Int) := zs ++ List.replicate m []
def zStep (f : Int → Int) (zs : List (List Int)) (i : Int) : List (List Int) :=
  let p := padZ zs ((f i).toNat + 1 - zs.length)
  p.set (f i).toNat (p.getD (f i).toNat [] ++ [i])
def zFold (f : Int → Int) (l : List Int) : List (List Int) := l.foldl (zStep f) []
def ordZ (t : Task) : List Int := sortV (fun i => (arr t i).1.lo) (wetL t)
def zE0 (t : Task) (now wd : Int) : Int := if atE t now ≠ 0 then atE t now else if outB wd 1 500 = true then 7 else 0
def zonesE (t : Task) (now wd : Int) : Int := if zE0 t now wd ≠ 0 then zE0 t now wd else if ((ordZ t).any fun i => decide (50 ≤ zoneZ t now wd i)) = true then 3 else 0
def zonesR (t : Task) (now wd : Int) : List (List Int) × Int := if zonesE t now wd ≠ 0 then ([], zonesE t now wd) else (zFold (zoneZ t now wd) (ordZ t), 0)
theorem zFold_snoc (f : Int → Int) (l : List Int) (i : Int) : zFold f (l ++ [i]) = zStep f (zFold f l) i := by unfold zFold; rw [List.foldl_append]; rfl
theorem zFold_step (f : Int → Int) {l : List Int} {k : Nat} {i : Int} (h : l[k]? = some i) : zFold f (l.take (k + 1)) = zStep f (zFold f (l.take k)) i := by rw [take_snoc h, zFold_snoc]
theorem padZ_len (zs : List (List Int)) (m : Nat) : (padZ zs m).length = zs.length + m := by simp [padZ]
theorem padZ_succ (zs : List (List Int)) (m : Nat) : padZ zs (m + 1) = padZ zs m ++ [[]] := by unfold padZ; rw [List.replicate_succ', List.append_assoc]
theorem padZ_get (zs : List (List Int)) (m k : Nat) : (padZ zs m)[k]? = if k < zs.length then zs[k]? else if k < zs.length + m then some [] else none := by
  unfold padZ
  rw [List.getElem?_append]
  split
  · rfl
  · rw [List.getElem?_replicate]
    by_cases h : k < zs.length + m
    · rw [if_pos h, if_pos (by omega)]
    · rw [if_neg h, if_neg (by omega)]
theorem zoneZ_bd {t : Task} {now wd i : Int} (hw : 1 ≤ wd) : 0 ≤ zoneZ t now wd i := Int.ediv_nonneg (by omega) (by omega)
/-- What the zones are: in each those of the towns whose zone it is. -/
structure ZonesOf (f : Int → Int) (l : List Int) (zs : List (List Int)) : Prop where
  get : ∀ k, k < zs.length → zs[k]? = some (l.filter fun i => decide (f i = (k : Int)))
  lt : ∀ i ∈ l, f i < zs.length
  last : 0 < zs.length → ∃ i ∈ l, f i = (zs.length : Int) - 1
theorem zFold_of {f : Int → Int} {l : List Int} (hf : ∀ i ∈ l, 0 ≤ f i) : ZonesOf f l (zFold f l) := by
  induction l using snocR with
  | h0 => exact ⟨fun k h => absurd h (Nat.not_lt_zero k), fun i h => (nomatch h), fun h => absurd h (Nat.lt_irrefl 0)⟩
  | h1 l x ih =>
    have ih := ih fun i hi => hf i (List.mem_append_left _ hi)
    have hx := hf x (by simp)
    rw [zFold_snoc]
    generalize zFold f l = zs at ih ⊢
    obtain ⟨n, hn⟩ : ∃ n : Nat, f x = (n : Int) := ⟨(f x).toNat, by omega⟩
    have en : (f x).toNat = n := by omega
    unfold zStep
    rw [en]
    simp only
    have hpl : (padZ zs (n + 1 - zs.length)).length = max zs.length (n + 1) := by rw [padZ_len]; omega
    have hnil : zs.length ≤ n → (l.filter fun i => decide (f i = (n : Int))) = [] := fun h => by
      rw [List.filter_eq_nil_iff]
      intro i hi
      have := ih.lt i hi
      simp; omega
    have hgn : (padZ zs (n + 1 - zs.length)).getD n [] = l.filter fun i => decide (f i = (n : Int)) := by
      rw [List.getD_eq_getElem?_getD, padZ_get]
      by_cases h : n < zs.length
      · rw [if_pos h, ih.get n h]; rfl
      · rw [if_neg h, if_pos (by omega), hnil (by omega)]; rfl
    refine ⟨fun k hk => ?_, fun i hi => ?_, fun _ => ?_⟩
    · rw [List.length_set, hpl] at hk
      rw [List.getElem?_set, hgn, List.filter_append]
      by_cases e : n = k
      · subst e
        rw [if_pos rfl, if_pos (by rw [hpl]; omega), List.filter_cons_of_pos (by simpa using hn), List.filter_nil]
      · rw [if_neg e, List.filter_cons_of_neg (by simp; omega), List.filter_nil, List.append_nil, padZ_get]
        by_cases h : k < zs.length
        · rw [if_pos h, ih.get k h]
        · rw [if_neg h, if_pos (by omega)]
          congr 1
          symm
          rw [List.filter_eq_nil_iff]
          intro i hi
          have := ih.lt i hi
          simp; omega
    · rw [List.length_set, hpl]
      rcases List.mem_append.1 hi with hi | hi
      · have := ih.lt i hi; omega
      · rw [List.mem_singleton.1 hi]; omega
    · rw [List.length_set, hpl]
      by_cases h : n < zs.length
      · obtain ⟨i, hi, e⟩ := ih.last (by omega)
        exact ⟨i, by simp [hi], by omega⟩
      · exact ⟨x, by simp, by omega⟩
theorem zE0_ok {t : Task} {now wd : Int} (h : zE0 t now wd = 0) : (checkA t).2.2 = 0 ∧ (0 ≤ now ∧ now ≤ 200000) ∧ 1 ≤ wd ∧ wd ≤ 500 := by
  unfold zE0 at h
  split at h
  next h1 => exact absurd h h1
  next h1 =>
    split at h
    next => cases h
    next h4 =>
      have h6 := Decidable.not_not.1 h1
      have hck : (checkA t).2.2 = 0 := by
        by_cases e : (checkA t).2.2 = 0
        · exact e
        · exact absurd (by unfold atE; rw [if_pos e]; exact e) (by rw [h6]; decide : ¬ atE t now ≠ 0)
      exact ⟨hck, (atE_ok h6).2, outB_false.1 (by simpa using h4)⟩
theorem zE0_at {t : Task} {now wd : Int} (h : atE t now ≠ 0) : zE0 t now wd = atE t now := if_pos h
theorem zE0_wd {t : Task} {now wd : Int} (h : atE t now = 0) (h2 : outB wd 1 500 = true) : zE0 t now wd = 7 := by unfold zE0; rw [if_neg (fun k => k h), if_pos h2]
theorem zE0_0 {t : Task} {now wd : Int} (h : atE t now = 0) (h2 : outB wd 1 500 = false) : zE0 t now wd = 0 := by unfold zE0; rw [if_neg (fun k => k h), if_neg (by rw [h2]; decide)]
theorem zE0_y {t : Task} {now wd : Int} (h : (decide ((checkA t).2.2 = 0) && ((!inB now 0 200000) || !inB wd 1 500)) = true) : zE0 t now wd = 7 := by
  rw [Bool.and_eq_true, decide_eq_true_eq, inB_not, inB_not, Bool.or_eq_true] at h
  have ha : atE t now = if outB now 0 200000 = true then 7 else 0 := by unfold atE; rw [if_neg (fun k => k h.1)]
  unfold zE0
  rw [ha]
  by_cases h3 : outB now 0 200000 = true
  · rw [if_pos h3]; rfl
  · rw [if_neg h3, if_neg (by decide), if_pos (h.2.resolve_left h3)]
theorem zE0_n {t : Task} {now wd : Int} (h : (decide ((checkA t).2.2 = 0) && ((!inB now 0 200000) || !inB wd 1 500)) = false) : zE0 t now wd = (checkA t).2.2 := by
  rw [Bool.and_eq_false_iff, decide_eq_false_iff_not, inB_not, inB_not, Bool.or_eq_false_iff] at h
  by_cases h0 : (checkA t).2.2 = 0
  · have h1 := h.resolve_left (fun k => k h0)
    rw [h0]
    exact zE0_0 (by unfold atE; rw [if_neg (fun k => k h0), if_neg (by rw [h1.1]; decide)]) h1.2
  · have ha : atE t now = (checkA t).2.2 := if_pos h0
    rw [← ha]
    exact zE0_at (by rw [ha]; exact h0)
theorem zones_err {t : Task} {now wd e : Int} (h : zE0 t now wd = e) (he : e ≠ 0) : zonesR t now wd = ([], e) := by
  have : zonesE t now wd = e := by unfold zonesE; rw [h, if_pos he]
  unfold zonesR; rw [this, if_pos he]
theorem zones_far {t : Task} {now wd i : Int} (h : zE0 t now wd = 0) (hi : i ∈ ordZ t) (h5 : 50 ≤ zoneZ t now wd i) : zonesR t now wd = ([], 3) := by
  have : zonesE t now wd = 3 := by unfold zonesE; rw [if_neg (fun k => k h), if_pos (List.any_eq_true.2 ⟨i, hi, decide_eq_true h5⟩)]
  unfold zonesR; rw [this, if_pos (by decide)]
theorem zones_in {t : Task} {now wd : Int} (h : zE0 t now wd = 0) (h5 : ∀ i ∈ ordZ t, zoneZ t now wd i < 50) : zonesR t now wd = (zFold (zoneZ t now wd) (ordZ t), 0) := by
  have : zonesE t now wd = 0 := by
    unfold zonesE
    rw [if_neg (fun k => k h), if_neg]
    rw [List.any_eq_true]
    rintro ⟨i, hi, k⟩
    have := h5 i hi
    have := of_decide_eq_true k
    omega
  unfold zonesR; rw [this, if_neg (by decide)]
theorem mem_ordZ {t : Task} {i : Int} : i ∈ ordZ t ↔ i ∈ wetL t := mem_sortV
theorem ordZ_len (t : Task) : (ordZ t).length = (wetL t).length := sortV_len _ _
theorem zFold_mem {f : Int → Int} {l : List Int} (hf : ∀ i ∈ l, 0 ≤ f i) : ∀ z ∈ zFold f l, ∀ x ∈ z, x ∈ l := fun z hz x hx => by
  obtain ⟨k, hk, rfl⟩ := List.getElem_of_mem hz
  have := (zFold_of hf).get k hk
  rw [List.getElem?_eq_getElem hk] at this
  rw [Option.some.inj this] at hx
  exact (List.mem_filter.1 hx).1
/-- A step of the walk: the zone of a town, opened. -/
theorem zone_set {f : Int → Int} {l : List Int} {k z : Nat} {i : Int} {z0 : List Int} (hi : l[k]? = some i) (hz : f i = (z : Int)) (h0 : (padZ (zFold f (l.take k)) (z + 1 - (zFold f (l.take k)).length))[z]? = some z0) :
    zFold f (l.take (k + 1)) = (padZ (zFold f (l.take k)) (z + 1 - (zFold f (l.take k)).length)).set z (z0 ++ [i]) := by
  have e : (f i).toNat = z := by omega
  rw [zFold_step f hi]
  unfold zStep
  simp only [e]
  rw [List.getD_eq_getElem?_getD, h0]; rfl
theorem padZ_0 (zs : List (List Int)) : padZ zs 0 = zs := by simp [padZ]
theorem wet_mem {t : Task} {i : Int} (h : i ∈ wetL t) : 0 ≤ i ∧ i < t.towns.length := (mem_wetL.1 h).1
theorem zFold_rows (f : Int → Int) : ∀ (l : List Int), ∀ z ∈ zFold f l, z.length ≤ l.length := by
  intro l
  induction l using snocR with
  | h0 => intro z hz; cases hz
  | h1 l x ih =>
    rw [zFold_snoc]
    intro z hz
    unfold zStep at hz
    rw [List.length_append, List.length_singleton]
    have hp : ∀ z ∈ padZ (zFold f l) ((f x).toNat + 1 - (zFold f l).length), z.length ≤ l.length := by
      intro z hz
      rcases List.mem_append.1 hz with h | h
      · exact ih z h
      · rw [List.eq_of_mem_replicate h]; exact Nat.zero_le _
    rcases List.mem_or_eq_of_mem_set hz with h | h
    · have := hp z h; omega
    · rw [h, List.length_append, List.length_singleton, List.getD_eq_getElem?_getD]
      cases hq : (padZ (zFold f l) ((f x).toNat + 1 - (zFold f l).length))[(f x).toNat]? with
      | none => simp
      | some y => have := hp y (List.mem_of_getElem? hq); simp; omega
theorem zFold_row {f : Int → Int} {l : List Int} {k z : Nat} {i : Int} {z0 : List Int} (_ : l[k]? = some i) (_ : f i = (z : Int)) (h0 : (padZ (zFold f (l.take k)) (z + 1 - (zFold f (l.take k)).length))[z]? = some z0) : z0.length ≤ k := by
  rcases List.mem_append.1 (List.mem_of_getElem? h0) with h | h
  · have := zFold_rows f _ z0 h
    rw [List.length_take] at this; omega
  · rw [List.eq_of_mem_replicate h]; exact Nat.zero_le _
end Bx

/- part Aw38 -/
namespace Go.Proofs.YtmoilbakmlekbaaGreatDoor
open Go Bx
/-- barrage/barrageref01.Ints -/
theorem c_Ints {la lb : List Int} {va vb : Value} {w0 : World} (ha : Sl w0 1 RInt va la) (hb : Sl w0 1 RInt vb lb) : CV Tryz.prog 41 #[va, vb] w0 (.bool (decide (la = lb))) := by
  obtain ⟨aa, ca, rfl, hca, hma, hela⟩ := ha
  obtain ⟨ab, cb, rfl, hcb, hmb, helb⟩ := hb
  refine enter Tryz.func41 rfl Tryz.ntmps41 rfl ?_
  have hS := St.start w0
  refine seq ?_
  refine region ?_
  refine sv (yAsg rfl) ?_
  refine nil ?_
  show Code.wp _ _ _ _ _
  refine seq ?_
  refine seq ?_
  refine region ?_
  refine sv (yMove rfl) ?_
  refine sv (yLen rfl Tryz.underlying34) ?_
  refine sv (yMove rfl) ?_
  refine sv (yLen rfl Tryz.underlying34) ?_
  refine sv (yNeq rfl rfl) ?_
  refine nil ?_
  show Code.wp _ _ _ _ _
  refine cond rfl (fun c10 => ?_) (fun c10 => ?_)
  ·
    simp only [Bool.and_eq_true, Bool.or_eq_true, Bool.and_eq_false_iff, Bool.or_eq_false_iff, decide_eq_true_eq, decide_eq_false_iff_not, Bool.not_eq_true, Bool.not_eq_false, Bool.not_not, Bool.not_eq_eq_eq_not, Bool.not_true, Bool.not_false, Bool.false_eq_true, Bool.true_eq_false, ne_eq, Decidable.not_not, not_false_eq_true, not_true_eq_false] at c10
    refine seq ?_
    refine region ?_
    refine sv (yAsg rfl) ?_
    refine nil ?_
    show Code.wp _ _ _ _ _
    refine wp_ret (thenR ?_)
    exact retV (res1 rfl (eqB (by rw [decide_eq_false (fun h => by rw [h] at c10; exact c10 rfl)]))) hS.ext
  ·
    simp only [Bool.and_eq_true, Bool.or_eq_true, Bool.and_eq_false_iff, Bool.or_eq_false_iff, decide_eq_true_eq, decide_eq_false_iff_not, Bool.not_eq_true, Bool.not_eq_false, Bool.not_not, Bool.not_eq_eq_eq_not, Bool.not_true, Bool.not_false, Bool.false_eq_true, Bool.true_eq_false, ne_eq, Decidable.not_not, not_false_eq_true, not_true_eq_false] at c10
    refine skip ?_
    show Code.wp _ _ _ _ _
    refine seq ?_
    refine seq ?_
    refine region ?_
    refine sv (yAsg rfl) ?_
    refine nil ?_
    show Code.wp _ _ _ _ _
    refine block ?_
    refine loop (fun f w zz => ∃ (k : Nat), f 0 = .slice aa la.length ca ∧ f 1 = .slice ab lb.length cb ∧ f 5 = .int .i64 (k : Int) ∧ StX [] w0 w [] ∧ (k ≤ la.length) ∧ (∀ i, i < k → la[i]? = lb[i]?) ∧ zz = la.length - k) _ ⟨_, rfl, 0, rfl, rfl, rfl, hS, (Nat.zero_le _), (fun i hi => absurd hi (Nat.not_lt_zero i)), rfl⟩ ?_
    clear hS
    rintro f w _ ⟨k, h0, h1, h5, hS, hk, hI, rfl⟩
    refine seq ?_
    refine seq ?_
    refine region ?_
    refine sv (yMove h5) ?_
    refine sv (yMove h0) ?_
    refine sv (yLen rfl Tryz.underlying34) ?_
    refine sv (yLss rfl rfl) ?_
    refine nil ?_
    show Code.wp _ _ _ _ _
    refine cond rfl (fun c14 => ?_) (fun c14 => ?_)
    ·
      simp only [Bool.and_eq_true, Bool.or_eq_true, Bool.and_eq_false_iff, Bool.or_eq_false_iff, decide_eq_true_eq, decide_eq_false_iff_not, Bool.not_eq_true, Bool.not_eq_false, Bool.not_not, Bool.not_eq_eq_eq_not, Bool.not_true, Bool.not_false, Bool.false_eq_true, Bool.true_eq_false, ne_eq, Decidable.not_not, not_false_eq_true, not_true_eq_false] at c14
      obtain ⟨x, hx, hd⟩ := drop_of (l := la) (k := k) (by omega)
      obtain ⟨b, o, cs, ha, hlen, hcs, hR⟩ := hela (k) (by omega)
      obtain rfl : x = la[k] := (List.getElem?_eq_some_iff.1 hx).2.symm
      generalize la[k] = x at hx hd hR
      obtain ⟨rfl, _⟩ := hR
      obtain ⟨y, hxq, hdq⟩ := drop_of (l := lb) (k := k) (by omega)
      obtain ⟨bq, oq, csq, haq, hlenq, hcsq, hRq⟩ := helb (k) (by omega)
      obtain rfl : y = lb[k] := (List.getElem?_eq_some_iff.1 hxq).2.symm
      generalize lb[k] = y at hxq hdq hRq
      obtain ⟨rfl, _⟩ := hRq
      refine skip ?_
      show Code.wp _ _ _ _ _
      refine seq ?_
      refine block ?_
      refine seq ?_
      refine region_draw mixed (by kernel_rfl) hS ?_
      refine qv (fun w hS => (yMove h0)) ?_
      refine qv (fun w hS => (yMove h5)) ?_
      refine qv (fun w hS => (yIxa rfl ha rfl Tryz.runUnderlying34 Tryz.sizeOf3 (by omega) (by omega))) ?_
      refine qv (fun w hS => (yLd rfl Tryz.isAgg3 ((hcs.ext hS.ext).one))) ?_
      refine qv (fun w hS => (yMove h1)) ?_
      refine qv (fun w hS => (yMove h5)) ?_
      refine qv (fun w hS => (yIxa rfl haq rfl Tryz.runUnderlying34 Tryz.sizeOf3 (by omega) (by omega))) ?_
      refine qv (fun w hS => (yLd rfl Tryz.isAgg3 ((hcsq.ext hS.ext).one))) ?_
      refine qv (fun w hS => (yNeq rfl rfl)) ?_
      clear hS; refine qnil (fun w hS => ?_)
      show Code.wp _ _ _ _ _
      refine cond rfl (fun c25 => ?_) (fun c25 => ?_)
      ·
        simp only [Bool.and_eq_true, Bool.or_eq_true, Bool.and_eq_false_iff, Bool.or_eq_false_iff, decide_eq_true_eq, decide_eq_false_iff_not, Bool.not_eq_true, Bool.not_eq_false, Bool.not_not, Bool.not_eq_eq_eq_not, Bool.not_true, Bool.not_false, Bool.false_eq_true, Bool.true_eq_false, ne_eq, Decidable.not_not, not_false_eq_true, not_true_eq_false] at c25
        have hne : x ≠ y := fun h => by subst h; simp at c25
        refine seq ?_
        refine region ?_
        refine sv (yAsg rfl) ?_
        refine nil ?_
        show Code.wp _ _ _ _ _
        refine wp_ret (blockR (thenR (thenR (blockR (thenR ?_)))))
        exact retV (res1 rfl (eqB (by rw [decide_eq_false (ne_of_get hx hxq hne)]))) hS.ext
      ·
        simp only [Bool.and_eq_true, Bool.or_eq_true, Bool.and_eq_false_iff, Bool.or_eq_false_iff, decide_eq_true_eq, decide_eq_false_iff_not, Bool.not_eq_true, Bool.not_eq_false, Bool.not_not, Bool.not_eq_eq_eq_not, Bool.not_true, Bool.not_false, Bool.false_eq_true, Bool.true_eq_false, ne_eq, Decidable.not_not, not_false_eq_true, not_true_eq_false] at c25
        have hxy : x = y := c25
        refine skip ?_
        show Code.wp _ _ _ _ _
        refine region ?_
        refine sv (yMove h5) ?_
        refine sv (yAdd rfl rfl ⟨by omega, by omega⟩) ?_
        refine sv (yAsg rfl) ?_
        refine nil ?_
        exact ⟨_, _, rfl, ⟨k + 1, h0, h1, rfl, hS, (by omega), (snoc hI (by rw [hx, hxq, hxy])), rfl⟩, by omega⟩
    ·
      simp only [Bool.and_eq_true, Bool.or_eq_true, Bool.and_eq_false_iff, Bool.or_eq_false_iff, decide_eq_true_eq, decide_eq_false_iff_not, Bool.not_eq_true, Bool.not_eq_false, Bool.not_not, Bool.not_eq_eq_eq_not, Bool.not_true, Bool.not_false, Bool.false_eq_true, Bool.true_eq_false, ne_eq, Decidable.not_not, not_false_eq_true, not_true_eq_false] at c14
      refine exit ?_
      show Code.wp _ _ _ _ _
      refine seq ?_
      refine region ?_
      refine sv (yAsg rfl) ?_
      refine nil ?_
      show Code.wp _ _ _ _ _
      refine wp_ret ?_
      exact retV (res1 rfl (eqB (by rw [decide_eq_true (eq_of_get (by omega) (fun i hi => hI i (by omega)))]))) hS.ext
/-- barrage/barrageref11.Lists -/
theorem c_Lists {la lb : List (List Int)} {va vb : Value} {w0 : World} (ha : Sl w0 1 RRow va la) (hb : Sl w0 1 RRow vb lb) : CV Tryz.prog 30 #[va, vb] w0 (.bool (decide (la = lb))) := by
  obtain ⟨aa, ca, rfl, hca, hma, hela⟩ := ha
  obtain ⟨ab, cb, rfl, hcb, hmb, helb⟩ := hb
  refine enter Tryz.func30 rfl Tryz.ntmps30 rfl ?_
  have hS := St.start w0
  refine seq ?_
  refine region ?_
  refine sv (yAsg rfl) ?_
  refine nil ?_
  show Code.wp _ _ _ _ _
  refine seq ?_
  refine seq ?_
  refine region ?_
  refine sv (yMove rfl) ?_
  refine sv (yLen rfl Tryz.underlying24) ?_
  refine sv (yMove rfl) ?_
  refine sv (yLen rfl Tryz.underlying24) ?_
  refine sv (yNeq rfl rfl) ?_
  refine nil ?_
  show Code.wp _ _ _ _ _
  refine cond rfl (fun c10 => ?_) (fun c10 => ?_)
  ·
    simp only [Bool.and_eq_true, Bool.or_eq_true, Bool.and_eq_false_iff, Bool.or_eq_false_iff, decide_eq_true_eq, decide_eq_false_iff_not, Bool.not_eq_true, Bool.not_eq_false, Bool.not_not, Bool.not_eq_eq_eq_not, Bool.not_true, Bool.not_false, Bool.false_eq_true, Bool.true_eq_false, ne_eq, Decidable.not_not, not_false_eq_true, not_true_eq_false] at c10
    refine seq ?_
    refine region ?_
    refine sv (yAsg rfl) ?_
    refine nil ?_
    show Code.wp _ _ _ _ _
    refine wp_ret (thenR ?_)
    exact retV (res1 rfl (eqB (by rw [decide_eq_false (fun h => by rw [h] at c10; exact c10 rfl)]))) hS.ext
  ·
    simp only [Bool.and_eq_true, Bool.or_eq_true, Bool.and_eq_false_iff, Bool.or_eq_false_iff, decide_eq_true_eq, decide_eq_false_iff_not, Bool.not_eq_true, Bool.not_eq_false, Bool.not_not, Bool.not_eq_eq_eq_not, Bool.not_true, Bool.not_false, Bool.false_eq_true, Bool.true_eq_false, ne_eq, Decidable.not_not, not_false_eq_true, not_true_eq_false] at c10
    refine skip ?_
    show Code.wp _ _ _ _ _
    refine seq ?_
    refine seq ?_
    refine region ?_
    refine sv (yAsg rfl) ?_
    refine nil ?_
    show Code.wp _ _ _ _ _
    refine block ?_
    refine loop (fun f w zz => ∃ (k : Nat), f 0 = .slice aa la.length ca ∧ f 1 = .slice ab lb.length cb ∧ f 5 = .int .i64 (k : Int) ∧ StX [] w0 w [] ∧ (k ≤ la.length) ∧ (∀ i, i < k → la[i]? = lb[i]?) ∧ zz = la.length - k) _ ⟨_, rfl, 0, rfl, rfl, rfl, hS, (Nat.zero_le _), (fun i hi => absurd hi (Nat.not_lt_zero i)), rfl⟩ ?_
    clear hS
    rintro f w _ ⟨k, h0, h1, h5, hS, hk, hI, rfl⟩
    refine seq ?_
    refine seq ?_
    refine region ?_
    refine sv (yMove h5) ?_
    refine sv (yMove h0) ?_
    refine sv (yLen rfl Tryz.underlying24) ?_
    refine sv (yLss rfl rfl) ?_
    refine nil ?_
    show Code.wp _ _ _ _ _
    refine cond rfl (fun c14 => ?_) (fun c14 => ?_)
    ·
      simp only [Bool.and_eq_true, Bool.or_eq_true, Bool.and_eq_false_iff, Bool.or_eq_false_iff, decide_eq_true_eq, decide_eq_false_iff_not, Bool.not_eq_true, Bool.not_eq_false, Bool.not_not, Bool.not_eq_eq_eq_not, Bool.not_true, Bool.not_false, Bool.false_eq_true, Bool.true_eq_false, ne_eq, Decidable.not_not, not_false_eq_true, not_true_eq_false] at c14
      obtain ⟨x, hx, hd⟩ := drop_of (l := la) (k := k) (by omega)
      obtain ⟨b, o, cs, ha, hlen, hcs, hR⟩ := hela (k) (by omega)
      obtain rfl : x = la[k] := (List.getElem?_eq_some_iff.1 hx).2.symm
      generalize la[k] = x at hx hd hR
      obtain ⟨xv, rfl, hxsl⟩ := hR
      obtain ⟨y, hxq, hdq⟩ := drop_of (l := lb) (k := k) (by omega)
      obtain ⟨bq, oq, csq, haq, hlenq, hcsq, hRq⟩ := helb (k) (by omega)
      obtain rfl : y = lb[k] := (List.getElem?_eq_some_iff.1 hxq).2.symm
      generalize lb[k] = y at hxq hdq hRq
      obtain ⟨yv, rfl, hysl⟩ := hRq
      refine skip ?_
      show Code.wp _ _ _ _ _
      refine seq ?_
      refine block ?_
      refine seq ?_
      refine region_draw mixed (by kernel_rfl) hS ?_
      refine qv (fun w hS => (yMove h0)) ?_
      refine qv (fun w hS => (yMove h5)) ?_
      refine qv (fun w hS => (yIxa rfl ha rfl Tryz.runUnderlying24 Tryz.sizeOf34 (by omega) (by omega))) ?_
      refine qv (fun w hS => (yLd rfl Tryz.isAgg34 ((hcs.ext hS.ext).one))) ?_
      refine qv (fun w hS => (yMove h1)) ?_
      refine qv (fun w hS => (yMove h5)) ?_
      refine qv (fun w hS => (yIxa rfl haq rfl Tryz.runUnderlying24 Tryz.sizeOf34 (by omega) (by omega))) ?_
      refine qv (fun w hS => (yLd rfl Tryz.isAgg34 ((hcsq.ext hS.ext).one))) ?_
      refine qcall Tryz.call41 (.cons rfl (.cons rfl .nil)) (fun w hS => (c_Ints (hxsl.ext RInt.stays hS.ext) (hysl.ext RInt.stays hS.ext))) ?_
      refine qv (fun w hS => (yNot rfl)) ?_
      clear hS; refine qnil (fun w hS => ?_)
      show Code.wp _ _ _ _ _
      refine cond rfl (fun c26 => ?_) (fun c26 => ?_)
      ·
        simp only [Bool.and_eq_true, Bool.or_eq_true, Bool.and_eq_false_iff, Bool.or_eq_false_iff, decide_eq_true_eq, decide_eq_false_iff_not, Bool.not_eq_true, Bool.not_eq_false, Bool.not_not, Bool.not_eq_eq_eq_not, Bool.not_true, Bool.not_false, Bool.false_eq_true, Bool.true_eq_false, ne_eq, Decidable.not_not, not_false_eq_true, not_true_eq_false] at c26
        have hne : x ≠ y := c26
        refine seq ?_
        refine region ?_
        refine sv (yAsg rfl) ?_
        refine nil ?_
        show Code.wp _ _ _ _ _
        refine wp_ret (blockR (thenR (thenR (blockR (thenR ?_)))))
        exact retV (res1 rfl (eqB (by rw [decide_eq_false (ne_of_get hx hxq hne)]))) hS.ext
      ·
        simp only [Bool.and_eq_true, Bool.or_eq_true, Bool.and_eq_false_iff, Bool.or_eq_false_iff, decide_eq_true_eq, decide_eq_false_iff_not, Bool.not_eq_true, Bool.not_eq_false, Bool.not_not, Bool.not_eq_eq_eq_not, Bool.not_true, Bool.not_false, Bool.false_eq_true, Bool.true_eq_false, ne_eq, Decidable.not_not, not_false_eq_true, not_true_eq_false] at c26
        have hxy : x = y := c26
        refine skip ?_
        show Code.wp _ _ _ _ _
        refine region ?_
        refine sv (yMove h5) ?_
        refine sv (yAdd rfl rfl ⟨by omega, by omega⟩) ?_
        refine sv (yAsg rfl) ?_
        refine nil ?_
        exact ⟨_, _, rfl, ⟨k + 1, h0, h1, rfl, hS, (by omega), (snoc hI (by rw [hx, hxq, hxy])), rfl⟩, by omega⟩
    ·
      simp only [Bool.and_eq_true, Bool.or_eq_true, Bool.and_eq_false_iff, Bool.or_eq_false_iff, decide_eq_true_eq, decide_eq_false_iff_not, Bool.not_eq_true, Bool.not_eq_false, Bool.not_not, Bool.not_eq_eq_eq_not, Bool.not_true, Bool.not_false, Bool.false_eq_true, Bool.true_eq_false, ne_eq, Decidable.not_not, not_false_eq_true, not_true_eq_false] at c14
      refine exit ?_
      show Code.wp _ _ _ _ _
      refine seq ?_
      refine region ?_
      refine sv (yAsg rfl) ?_
      refine nil ?_
      show Code.wp _ _ _ _ _
      refine wp_ret ?_
      exact retV (res1 rfl (eqB (by rw [decide_eq_true (eq_of_get (by omega) (fun i hi => hI i (by omega)))]))) hS.ext
set_option maxHeartbeats 4000000 in
/-- barrage/alarm.Zones -/
theorem c_Zones {t : Task} {hv nv fv : Value} {now wd : Int} {w0 : World} (hg : Glb w0) (h : RTask w0 [.int .i64 t.polders, hv, nv, fv] t) : CE Tryz.prog 28 #[.agg [.int .i64 t.polders, hv, nv, fv].toArray, .int .i64 now, .int .i64 wd] w0 (fun u w' => ∃ lv, u = .tuple #[lv, .int .i64 (zonesR t now wd).2] ∧ Sl w' 1 RRow lv (zonesR t now wd).1 ∧ Ext w0 w') := by
  obtain ⟨hv', nv', fv', he0, hpol, hsh, hsn, hsf⟩ := id h
  obtain ⟨rfl, rfl, rfl⟩ : hv' = hv ∧ nv' = nv ∧ fv' = fv := by simpa [eq_comm] using he0
  obtain ⟨a1, cap1, rfl, hcap1, hmx1, hel1⟩ := id hsh
  obtain ⟨a2, cap2, rfl, hcap2, hmx2, hel2⟩ := id hsn
  obtain ⟨a3, cap3, rfl, hcap3, hmx3, hel3⟩ := id hsf
  refine enter Tryz.func28 rfl Tryz.ntmps28 rfl ?_
  have hS := St.start w0
  refine seq ?_
  refine region ?_
  refine sbox hS rfl rfl ?_; clear hS; intro b3 w hS
  refine sv (yAsg rfl) ?_
  refine sv (yAsg rfl) ?_
  refine nil ?_
  show Code.wp _ _ _ _ _
  refine seq ?_
  refine region ?_
  refine sv (yLdBA rfl Tryz.isAgg26 Tryz.sizeOf26 (hS.at _) rfl rfl) ?_
  refine sv (yMove rfl) ?_
  refine scall Tryz.call47 (.cons rfl (.cons rfl .nil)) (c_at (hg.ext hS.ext) (h.ext hS.ext)) ?_
  rintro _ w (⟨he, rfl, hE⟩ | ⟨he, bb, b1, bz, rfl, hM⟩)
  ·
    replace hS := hS.step hE; clear hE
    refine sv (yMove rfl) ?_
    refine sv (yExt rfl rfl) ?_
    refine sv (yExt rfl rfl) ?_
    refine sv (yAsg rfl) ?_
    refine sv (yAsg rfl) ?_
    refine nil ?_
    show Code.wp _ _ _ _ _
    refine seq ?_
    refine block ?_
    refine seq ?_
    refine region ?_
    refine sv (yMove rfl) ?_
    refine sv (yNeq rfl rfl) ?_
    refine sv (yAsg rfl) ?_
    refine nil ?_
    show Code.wp _ _ _ _ _
    refine cond rfl (fun c18 => ?_) (fun c18 => ?_)
    ·
      simp only [Bool.and_eq_true, Bool.or_eq_true, Bool.and_eq_false_iff, Bool.or_eq_false_iff, decide_eq_true_eq, decide_eq_false_iff_not, Bool.not_eq_true, Bool.not_eq_false, Bool.not_not, Bool.not_eq_eq_eq_not, Bool.not_true, Bool.not_false, Bool.false_eq_true, Bool.true_eq_false, ne_eq, Decidable.not_not, not_false_eq_true, not_true_eq_false] at c18
      refine seq ?_
      refine region ?_
      refine sv (yMove rfl) ?_
      refine sv (yAsg rfl) ?_
      refine sv (yAsg rfl) ?_
      refine nil ?_
      show Code.wp _ _ _ _ _
      refine wp_ret (blockR (thenR ?_))
      refine retQ (res2 rfl rfl rfl) ?_
      rw [zones_err (zE0_at he) he]
      exact ⟨_, rfl, Sl.nil, hS.ext⟩
    ·
      simp only [Bool.and_eq_true, Bool.or_eq_true, Bool.and_eq_false_iff, Bool.or_eq_false_iff, decide_eq_true_eq, decide_eq_false_iff_not, Bool.not_eq_true, Bool.not_eq_false, Bool.not_not, Bool.not_eq_eq_eq_not, Bool.not_true, Bool.not_false, Bool.false_eq_true, Bool.true_eq_false, ne_eq, Decidable.not_not, not_false_eq_true, not_true_eq_false] at c18
      exact absurd c18 he
  ·
    replace hS := hS.call hM; clear hM
    obtain ⟨hok, hn⟩ := atE_ok he
    replace hS : StX [] w0 w [blk bb [.int .i64 t.polders, .slice a1 t.chans.length cap1, .slice a2 t.towns.length cap2, .slice a3 t.floods.length cap3, .slice (some ⟨b1, 0, none⟩) t.towns.length t.towns.length, .slice (some ⟨bz, 0, none⟩) t.towns.length t.towns.length] 141, blk b1 ((arrS t).flatMap spanC) 44, blk bz ((arrN t).flatMap Bx.encI) 3, blk b3 [.int .i64 t.polders, .slice a1 t.chans.length cap1, .slice a2 t.towns.length cap2, .slice a3 t.floods.length cap3] 26] := hS
    have hB : RBoard w bb t := board_mk (hS.at bb) (h.ext hS.ext) hok (hS.at b1) (hS.at bz)
    have hE0 := hS.ext
    obtain ⟨w0, hwq⟩ : ∃ wq, wq = w := ⟨w, rfl⟩
    rw [← hwq] at hE0 hB
    replace hS : StX [] w0 w [] := by rw [hwq]; exact St.start w
    clear hwq
    have hwl := wetL_len t
    have hn8 := hok.ntw
    refine sv (yMove rfl) ?_
    refine sv (yExt rfl rfl) ?_
    refine sv (yExt rfl rfl) ?_
    refine sv (yAsg rfl) ?_
    refine sv (yAsg rfl) ?_
    refine nil ?_
    show Code.wp _ _ _ _ _
    refine seq ?_
    refine block ?_
    refine seq ?_
    refine region ?_
    refine sv (yMove rfl) ?_
    refine sv (yNeq rfl rfl) ?_
    refine sv (yAsg rfl) ?_
    refine nil ?_
    show Code.wp _ _ _ _ _
    refine cond rfl (fun c18 => ?_) (fun c18 => ?_)
    ·
      exact absurd c18 (by decide)
    ·
      refine seq ?_
      refine region ?_
      refine sv (yMove rfl) ?_
      refine scall Tryz.call52 (.cons rfl (.cons rfl (.cons rfl .nil))) c_out ?_
      rintro _ w ⟨rfl, hE⟩; replace hS := hS.step hE; clear hE
      refine sv (yAsg rfl) ?_
      refine nil ?_
      show Code.wp _ _ _ _ _
      refine cond rfl (fun c22 => ?_) (fun c22 => ?_)
      ·
        refine seq ?_
        refine region ?_
        refine sv (yAsg rfl) ?_
        refine sv (yAsg rfl) ?_
        refine nil ?_
        show Code.wp _ _ _ _ _
        refine wp_ret (blockR (thenR ?_))
        refine retQ (res2 rfl rfl rfl) ?_
        rw [zones_err (zE0_wd he c22) (by decide)]
        exact ⟨_, rfl, Sl.nil, hE0.trans hS.ext⟩
      ·
        have hz0 := zE0_0 he c22
        obtain ⟨-, -, hwd⟩ := zE0_ok hz0
        refine skip ?_
        show Code.wp _ _ _ _ _
        refine seq ?_
        refine seq ?_
        refine region ?_
        refine sv (yMove rfl) ?_
        refine scall Tryz.call48 (.cons rfl .nil) (c_wet (hB.ext hS.ext)) ?_
        rintro tv w hM; replace hS := hS.call1 hM; clear hM
        obtain ⟨aw, cw, rfl⟩ := row_shape (hS.row tv)
        refine sv (yMove rfl) ?_
        refine sv (yFnB (.cons rfl .nil)) ?_
        refine scall Tryz.call75 (.cons rfl (.cons rfl .nil)) (c_sorted (fk := fun i => (arr t i).1.lo) (hS.row (.slice aw (wetL t).length cw)) Tryz.call76 (fun x w hx e => c_first (hB.ext (e.oldR hS)) (wet_mem hx)) (by omega)) ?_
        rintro _ w ⟨rfl, hM⟩
        replace hS := hS.app (v := .slice aw (wetL t).length cw) (v' := .slice aw (wetL t).length cw) (hM.row _) hM.grown (.inl rfl)
        clear hM
        replace hS : StX [] w0 w (rowI (.slice aw (wetL t).length cw) 3 1 (wetL t).length ((ordZ t).flatMap Bx.encI) :: []) := hS
        have hol := ordZ_len t
        refine sv (yLen rfl Tryz.underlying34) ?_
        refine sv (yMove rfl) ?_
        refine nil ?_
        show Code.wp _ _ _ _ _
        refine block ?_
        refine loop (fun f w zz => ∃ (k : Nat) (lv : Value) (vs : List Value), f 1 = .int .i64 now ∧ f 2 = .int .i64 wd ∧ f 6 = lv ∧ f 8 = .pointer (some ⟨bb, 0, none⟩) ∧ f 29 = .slice aw (wetL t).length cw ∧ f 30 = .int .i64 ((wetL t).length : Int) ∧ f 31 = .int .i64 (k : Int) ∧ StX [] w0 w [packI (inI vs (zFold (zoneZ t now wd) ((ordZ t).take k))), rowI (lv) 34 1 (zFold (zoneZ t now wd) ((ordZ t).take k)).length vs, rowI (.slice aw (wetL t).length cw) 3 1 (wetL t).length ((ordZ t).flatMap Bx.encI)] ∧ (k ≤ (wetL t).length) ∧ (vs.length = (zFold (zoneZ t now wd) ((ordZ t).take k)).length) ∧ (∀ i ∈ (ordZ t).take k, zoneZ t now wd i < 50) ∧ zz = (wetL t).length - k) _ ⟨_, rfl, 0, _, [], rfl, rfl, rfl, rfl, rfl, rfl, rfl, (StX.pack (M := []) (hS.nilrow 34 1)), (Nat.zero_le _), (rfl), (fun i hi => by simp at hi), rfl⟩ ?_
        clear hS
        rintro f w _ ⟨k, lv, vs, h1, h2, h6, h8, h29, h30, h31, hS, hk, hvl, h50, rfl⟩
        refine seq ?_
        refine region ?_
        refine sv (yLss h31 h30) ?_
        refine nil ?_
        show Code.wp _ _ _ _ _
        refine seq ?_
        refine cond rfl (fun c32 => ?_) (fun c32 => ?_)
        ·
          simp only [Bool.and_eq_true, Bool.or_eq_true, Bool.and_eq_false_iff, Bool.or_eq_false_iff, decide_eq_true_eq, decide_eq_false_iff_not, Bool.not_eq_true, Bool.not_eq_false, Bool.not_not, Bool.not_eq_eq_eq_not, Bool.not_true, Bool.not_false, Bool.false_eq_true, Bool.true_eq_false, ne_eq, Decidable.not_not, not_false_eq_true, not_true_eq_false] at c32
          obtain ⟨i, hxi, -⟩ := drop_of (l := ordZ t) (k := k) (by omega)
          have him := List.mem_of_getElem? hxi
          have hib := wet_mem (mem_ordZ.1 him)
          have hab := arr_bd hok hib
          obtain ⟨go, hao, -⟩ := row_get (hS.row (.slice aw (wetL t).length cw)) (by omega)
          refine skip ?_
          show Code.wp _ _ _ _ _
          refine seq ?_
          refine block ?_
          refine seq ?_
          refine region ?_
          refine sv (yIxa h29 hao h31 Tryz.runUnderlying34 Tryz.sizeOf3 (by omega) (by omega)) ?_
          refine sv (yLd rfl Tryz.isAgg3 ((flat_cells (enc := Bx.encI) encI_len (row_at (hS.row (.slice aw (wetL t).length cw)) hao (by omega)) hxi).one)) ?_
          refine sv (yAsg rfl) ?_
          refine nil ?_
          show Code.wp _ _ _ _ _
          refine seq ?_
          refine region ?_
          refine sv (yMove h8) ?_
          refine sv (yMove rfl) ?_
          refine scall Tryz.call76 (.cons rfl (.cons rfl .nil)) (c_first (hB.ext hS.ext) hib) ?_
          rintro _ w ⟨rfl, hE⟩; replace hS := hS.step hE; clear hE
          refine sv (yMove h1) ?_
          refine sv (ySub rfl rfl ⟨by omega, by omega⟩) ?_
          refine sv (yMax rfl rfl) ?_
          refine sv (yMove h2) ?_
          refine sv (yQuoP rfl rfl ⟨by omega, by omega⟩ (by omega)) ?_
          refine sv (yAsg rfl) ?_
          refine nil ?_
          show Code.wp _ _ _ _ _
          refine seq ?_
          refine seq ?_
          refine region ?_
          refine sv (yMove rfl) ?_
          refine sv (yGeq rfl rfl) ?_
          refine nil ?_
          show Code.wp _ _ _ _ _
          refine cond rfl (fun c44 => ?_) (fun c44 => ?_)
          ·
            simp only [Bool.and_eq_true, Bool.or_eq_true, Bool.and_eq_false_iff, Bool.or_eq_false_iff, decide_eq_true_eq, decide_eq_false_iff_not, Bool.not_eq_true, Bool.not_eq_false, Bool.not_not, Bool.not_eq_eq_eq_not, Bool.not_true, Bool.not_false, Bool.false_eq_true, Bool.true_eq_false, ne_eq, Decidable.not_not, not_false_eq_true, not_true_eq_false] at c44
            refine seq ?_
            refine region ?_
            refine sv (yAsg rfl) ?_
            refine sv (yAsg rfl) ?_
            refine nil ?_
            show Code.wp _ _ _ _ _
            refine wp_ret (thenR (blockR (thenR (thenR (blockR (thenR ?_))))))
            refine retQ (res2 rfl rfl rfl) ?_
            rw [zones_far hz0 him c44]
            exact ⟨_, rfl, Sl.nil, hE0.trans hS.ext⟩
          ·
            simp only [Bool.and_eq_true, Bool.or_eq_true, Bool.and_eq_false_iff, Bool.or_eq_false_iff, decide_eq_true_eq, decide_eq_false_iff_not, Bool.not_eq_true, Bool.not_eq_false, Bool.not_not, Bool.not_eq_eq_eq_not, Bool.not_true, Bool.not_false, Bool.false_eq_true, Bool.true_eq_false, ne_eq, Decidable.not_not, not_false_eq_true, not_true_eq_false] at c44
            have hzp := zoneZ_bd (t := t) (now := now) (i := i) hwd.1
            obtain ⟨z, hz⟩ : ∃ z : Nat, zoneZ t now wd i = (z : Int) := ⟨(zoneZ t now wd i).toNat, by omega⟩
            have hzl5 : zoneZ t now wd i < 50 := by have : ¬ 50 ≤ zoneZ t now wd i := c44; omega
            refine skip ?_
            show Code.wp _ _ _ _ _
            refine seq ?_
            refine block ?_
            refine loop (fun f w zz => ∃ (m : Nat) (lv : Value) (vs : List Value), f 1 = .int .i64 now ∧ f 2 = .int .i64 wd ∧ f 6 = lv ∧ f 8 = .pointer (some ⟨bb, 0, none⟩) ∧ f 29 = .slice aw (wetL t).length cw ∧ f 30 = .int .i64 ((wetL t).length : Int) ∧ f 31 = .int .i64 (k : Int) ∧ f 10 = .int .i64 i ∧ f 11 = .int .i64 (zoneZ t now wd i) ∧ StX [] w0 w [packI (inI vs (padZ (zFold (zoneZ t now wd) ((ordZ t).take k)) m)), rowI (lv) 34 1 (padZ (zFold (zoneZ t now wd) ((ordZ t).take k)) m).length vs, rowI (.slice aw (wetL t).length cw) 3 1 (wetL t).length ((ordZ t).flatMap Bx.encI)] ∧ (vs.length = (padZ (zFold (zoneZ t now wd) ((ordZ t).take k)) m).length) ∧ (m ≤ z + 1 - (zFold (zoneZ t now wd) ((ordZ t).take k)).length) ∧ zz = z + 1 - (zFold (zoneZ t now wd) ((ordZ t).take k)).length - m) _ ⟨_, rfl, 0, _, vs, h1, h2, h6, h8, h29, h30, h31, rfl, rfl, (by rw [padZ_0]; exact hS), (by rw [padZ_0]; exact hvl), (Nat.zero_le _), rfl⟩ ?_
            clear hS
            rintro f w _ ⟨m, lv, vs, h1, h2, h6, h8, h29, h30, h31, h10, h11, hS, hvl, hm, rfl⟩
            obtain ⟨a6, c6, rfl⟩ := row_shape (hS.row lv)
            have hpl := padZ_len (zFold (zoneZ t now wd) ((ordZ t).take k)) m
            refine seq ?_
            refine seq ?_
            refine region ?_
            refine sv (yMove h6) ?_
            refine sv (yLen rfl Tryz.underlying24) ?_
            refine sv (yMove h11) ?_
            refine sv (yLeq rfl rfl) ?_
            refine nil ?_
            show Code.wp _ _ _ _ _
            refine cond rfl (fun c48 => ?_) (fun c48 => ?_)
            ·
              simp only [Bool.and_eq_true, Bool.or_eq_true, Bool.and_eq_false_iff, Bool.or_eq_false_iff, decide_eq_true_eq, decide_eq_false_iff_not, Bool.not_eq_true, Bool.not_eq_false, Bool.not_not, Bool.not_eq_eq_eq_not, Bool.not_true, Bool.not_false, Bool.false_eq_true, Bool.true_eq_false, ne_eq, Decidable.not_not, not_false_eq_true, not_true_eq_false] at c48
              refine skip ?_
              show Code.wp _ _ _ _ _
              refine block ?_
              refine region ?_
              refine sv (yMove h6) ?_
              refine sbslice hS Tryz.underlying24 Tryz.sizeOf34 rfl Tryz.zeroValue34 rfl (.cons rfl rfl .nil) rfl ?_; clear hS; intro b50 w hS
              refine sapp (bytes := 24) (size := 1) (v := (.slice a6 (padZ (zFold (zoneZ t now wd) ((ordZ t).take k)) m).length c6)) (m := 1) hS rfl rfl Tryz.underlying24 ti34 rfl rfl rfl rfl (by decide) (blk_cells (hS.at _)) rfl rfl (by omega) (by omega) ?_; clear hS; intro v51 w hS
              refine sv (yAsg rfl) ?_
              refine nil ?_
              exact ⟨_, _, rfl, ⟨m + 1, _, vs ++ [.slice none 0 0], h1, h2, rfl, h8, h29, h30, h31, h10, h11, (by rw [padZ_succ, inI_snoc hvl, List.length_append]; exact ((hS.sub (.cons _ (List.Sublist.refl _))).nilrow 3 1).packs), (by rw [padZ_succ, List.length_append, List.length_append, hvl]; rfl), (by omega), rfl⟩, by omega⟩
            ·
              simp only [Bool.and_eq_true, Bool.or_eq_true, Bool.and_eq_false_iff, Bool.or_eq_false_iff, decide_eq_true_eq, decide_eq_false_iff_not, Bool.not_eq_true, Bool.not_eq_false, Bool.not_not, Bool.not_eq_eq_eq_not, Bool.not_true, Bool.not_false, Bool.false_eq_true, Bool.true_eq_false, ne_eq, Decidable.not_not, not_false_eq_true, not_true_eq_false] at c48
              obtain rfl : m = z + 1 - (zFold (zoneZ t now wd) ((ordZ t).take k)).length := by rw [padZ_len] at c48; omega
              have hzl : z < (padZ (zFold (zoneZ t now wd) ((ordZ t).take k)) (z + 1 - (zFold (zoneZ t now wd) ((ordZ t).take k)).length)).length := by rw [padZ_len]; omega
              obtain ⟨g6, rfl, -⟩ := row_get (hS.row (.slice a6 (padZ (zFold (zoneZ t now wd) ((ordZ t).take k)) (z + 1 - (zFold (zoneZ t now wd) ((ordZ t).take k)).length)).length c6)) (by omega)
              obtain ⟨v0, hv0⟩ : ∃ v0, vs[z]? = some v0 := ⟨_, List.getElem?_eq_getElem (by omega)⟩
              obtain ⟨z0, hz0⟩ : ∃ z0, (padZ (zFold (zoneZ t now wd) ((ordZ t).take k)) (z + 1 - (zFold (zoneZ t now wd) ((ordZ t).take k)).length))[z]? = some z0 := ⟨_, List.getElem?_eq_getElem hzl⟩
              have hnx := zone_set hxi hz hz0
              have hin := inI_get hv0 hz0
              have hrv : w.ownsRow 0 3 1 v0 z0.length (z0.flatMap Bx.encI) := hS.inpack (by simp) hin
              obtain ⟨a0, c0, rfl⟩ := row_shape hrv
              have hzz : z0.length ≤ k := by have := zFold_row hxi hz hz0; exact this
              rw [inI_split hv0 hz0] at hS
              replace hS := hS.takeI
              replace hS : StX [] w0 w (rowI (.slice a0 z0.length c0) 3 1 z0.length (z0.flatMap Bx.encI) :: packI _ :: rowI (.slice (some ⟨g6, 0, none⟩) (padZ (zFold (zoneZ t now wd) ((ordZ t).take k)) (z + 1 - (zFold (zoneZ t now wd) ((ordZ t).take k)).length)).length c6) 34 1 (padZ (zFold (zoneZ t now wd) ((ordZ t).take k)) (z + 1 - (zFold (zoneZ t now wd) ((ordZ t).take k)).length)).length vs :: rowI (.slice aw (wetL t).length cw) 3 1 (wetL t).length ((ordZ t).flatMap Bx.encI) :: []) := hS
              refine exit ?_
              show Code.wp _ _ _ _ _
              refine region ?_
              refine sv (yMove h6) ?_
              refine sv (yMove h11) ?_
              refine sv (yMove h6) ?_
              refine sv (yMove h11) ?_
              refine sv (yIx0 (m := z) rfl (rfl.trans (congrArg (Value.int .i64) hz)) Tryz.runUnderlying24 Tryz.sizeOf34 (by omega)) ?_
              refine sv (yLd rfl Tryz.isAgg34 (out_cell (row_at (hS.row (.slice (some ⟨g6, 0, none⟩) (padZ (zFold (zoneZ t now wd) ((ordZ t).take k)) (z + 1 - (zFold (zoneZ t now wd) ((ordZ t).take k)).length)).length c6)) rfl (by omega)) hv0)) ?_
              refine sv (yMove h10) ?_
              refine sbslice hS Tryz.underlying34 Tryz.sizeOf3 rfl Tryz.zeroValue3 rfl (.cons rfl rfl .nil) rfl ?_; clear hS; intro b59 w hS
              refine sapp (bytes := 8) (size := 1) (v := (.slice a0 z0.length c0)) (m := 1) hS rfl rfl Tryz.underlying34 ti3 rfl rfl rfl rfl (by decide) (blk_cells (hS.at _)) rfl rfl (by omega) (by omega) ?_; clear hS; intro v60 w hS
              refine sv (yIx0 (m := z) rfl (rfl.trans (congrArg (Value.int .i64) hz)) Tryz.runUnderlying24 Tryz.sizeOf34 (by omega)) ?_
              obtain ⟨a60, c60, rfl⟩ := row_shape (hS.row v60)
              refine srst (g := g6) (m := (padZ (zFold (zoneZ t now wd) ((ordZ t).take k)) (z + 1 - (zFold (zoneZ t now wd) ((ordZ t).take k)).length)).length) (cap := c6) (sz := 1) (vs := [.slice a60 (z0.length + 1) c60]) hS rfl rfl Tryz.sizeOf34 rfl rfl (by omega) rfl ?_; clear hS; intro w hS
              rw [splice_one (by omega)] at hS
              refine nil ?_
              show Code.wp _ _ _ _ _
              refine region ?_
              refine sv (yAdd h31 rfl ⟨by omega, by omega⟩) ?_
              refine sv (yMove rfl) ?_
              refine nil ?_
              exact ⟨_, _, rfl, ⟨k + 1, _, vs.set z (.slice a60 (z0.length + 1) c60), h1, h2, h6, h8, h29, h30, rfl, (by rw [hnx, inI_set hv0 hz0, List.length_set]; refine StX.putI ?_; unfold inR; rw [List.flatMap_append, List.length_append]; exact hS.sub (.cons _ (List.Sublist.refl _))), (by omega), (by rw [hnx, List.length_set, List.length_set]; exact hvl), (fun q hq => by rw [take_snoc hxi] at hq; rcases List.mem_append.1 hq with hq | hq; exact h50 q hq; rw [List.mem_singleton.1 hq]; omega), rfl⟩, by omega⟩
        ·
          simp only [Bool.and_eq_true, Bool.or_eq_true, Bool.and_eq_false_iff, Bool.or_eq_false_iff, decide_eq_true_eq, decide_eq_false_iff_not, Bool.not_eq_true, Bool.not_eq_false, Bool.not_not, Bool.not_eq_eq_eq_not, Bool.not_true, Bool.not_false, Bool.false_eq_true, Bool.true_eq_false, ne_eq, Decidable.not_not, not_false_eq_true, not_true_eq_false] at c32
          obtain rfl : k = (wetL t).length := by omega
          rw [← hol, List.take_length] at hS hvl h50
          refine exit ?_
          show Code.wp _ _ _ _ _
          refine seq ?_
          refine region ?_
          refine sv (yMove h6) ?_
          refine sv (yAsg rfl) ?_
          refine sv (yAsg rfl) ?_
          refine nil ?_
          show Code.wp _ _ _ _ _
          refine wp_ret ?_
          refine retQ (res2 rfl rfl rfl) ?_
          rw [zones_in hz0 h50]
          exact ⟨_, rfl, sl_rows2 (fun w v z h => ⟨v, rfl, h⟩) hvl (hS.row lv) (fun it hit => hS.inpack (by simp) hit) (fun z hz x hx => by have := wet_mem (mem_ordZ.1 (zFold_mem (fun i _ => zoneZ_bd hwd.1) z hz x hx)); constructor <;> omega), hE0.trans hS.ext⟩
end Go.Proofs.YtmoilbakmlekbaaGreatDoor

/- part Aw39 -/
namespace Go.Proofs.YtmoilbakmlekbaaGreatDoor
open Go Bx
set_option maxHeartbeats 1000000 in
/-- barrage/barrageref11.wet -/
theorem c_rwet {t : Task} {hv nv fv : Value} {w0 : World} (h : RTask w0 [.int .i64 t.polders, hv, nv, fv] t) (hok : TaskOk t) : CE Tryz.prog 79 #[.agg [.int .i64 t.polders, hv, nv, fv].toArray] w0 (fun u w' => St w0 w' [rowI u 3 1 (wetL t).length ((wetL t).flatMap Bx.encI)]) := by
  obtain ⟨hv', nv', fv', he0, hpol, hsh, hsn, hsf⟩ := id h
  obtain ⟨rfl, rfl, rfl⟩ : hv' = hv ∧ nv' = nv ∧ fv' = fv := by simpa [eq_comm] using he0
  obtain ⟨a1, cap1, rfl, hcap1, hmx1, hel1⟩ := id hsh
  obtain ⟨a2, cap2, rfl, hcap2, hmx2, hel2⟩ := id hsn
  obtain ⟨a3, cap3, rfl, hcap3, hmx3, hel3⟩ := id hsf
  have hn8 := hok.ntw
  refine enter Tryz.func79 rfl Tryz.ntmps79 rfl ?_
  have hS := St.start w0
  refine seq ?_
  refine region ?_
  refine sbox hS rfl rfl ?_; clear hS; intro b1 w hS
  refine sv (yAsg rfl) ?_
  refine nil ?_
  show Code.wp _ _ _ _ _
  refine seq ?_
  refine region ?_
  refine sv (yAsg rfl) ?_
  refine nil ?_
  show Code.wp _ _ _ _ _
  refine seq ?_
  refine seq ?_
  refine region ?_
  refine sv (yAsg rfl) ?_
  refine nil ?_
  show Code.wp _ _ _ _ _
  refine block ?_
  refine loop (fun f w zz => ∃ (k : Nat) (v : Value), f 1 = .pointer (some ⟨b1, 0, none⟩) ∧ f 3 = v ∧ f 4 = .int .i64 (k : Int) ∧ StX [] w0 w [rowI v 3 1 (((idxL t).take k).filter fun i => decide (0 < (arr t i).2)).length ((((idxL t).take k).filter fun i => decide (0 < (arr t i).2)).flatMap Bx.encI), blk b1 [.int .i64 t.polders, .slice a1 t.chans.length cap1, .slice a2 t.towns.length cap2, .slice a3 t.floods.length cap3] 26] ∧ (k ≤ t.towns.length) ∧ zz = t.towns.length - k) _ ⟨_, rfl, 0, _, rfl, rfl, rfl, (hS.nilrow 3 1), (Nat.zero_le _), rfl⟩ ?_
  clear hS
  rintro f w _ ⟨k, v, h1, h3, h4, hS, hk, rfl⟩
  refine seq ?_
  refine seq ?_
  refine region ?_
  refine sv (yMove h4) ?_
  refine sv (fa26_2 h1) ?_
  refine sv (yLdB rfl Tryz.isAgg23 (hS.at _) rfl) ?_
  refine sv (yLen rfl Tryz.underlying23) ?_
  refine sv (yLss rfl rfl) ?_
  refine nil ?_
  show Code.wp _ _ _ _ _
  refine cond rfl (fun c11 => ?_) (fun c11 => ?_)
  ·
    simp only [Bool.and_eq_true, Bool.or_eq_true, Bool.and_eq_false_iff, Bool.or_eq_false_iff, decide_eq_true_eq, decide_eq_false_iff_not, Bool.not_eq_true, Bool.not_eq_false, Bool.not_not, Bool.not_eq_eq_eq_not, Bool.not_true, Bool.not_false, Bool.false_eq_true, Bool.true_eq_false, ne_eq, Decidable.not_not, not_false_eq_true, not_true_eq_false] at c11
    have hkn : k < t.towns.length := by omega
    have hi : 0 ≤ (k : Int) ∧ (k : Int) < t.towns.length := by omega
    have hfl : (((idxL t).take k).filter fun i => decide (0 < (arr t i).2)).length ≤ k := Nat.le_trans (List.length_filter_le _ _) (by simp; omega)
    refine skip ?_
    show Code.wp _ _ _ _ _
    refine seq ?_
    refine block ?_
    refine seq ?_
    refine region ?_
    refine sv (yLdBA h1 Tryz.isAgg26 Tryz.sizeOf26 (hS.at _) rfl rfl) ?_
    refine sv (yMove h4) ?_
    refine scall Tryz.call71 (.cons rfl (.cons rfl .nil)) (c_rarr (h.ext hS.ext) hok hi) ?_
    rintro _ w ⟨rfl, hE⟩; replace hS := hS.step hE; clear hE
    refine sv (yMove rfl) ?_
    refine sv (yExt rfl rfl) ?_
    refine sv (yExt rfl rfl) ?_
    refine salloc hS Tryz.zeroValue44 rfl ?_; clear hS; intro b5 w hS
    refine sst hS rfl rfl Tryz.sizeOf44 rfl rfl rfl rfl ?_; clear hS; intro w hS
    refine sv (yAsg rfl) ?_
    refine nil ?_
    show Code.wp _ _ _ _ _
    refine seq ?_
    refine region ?_
    refine sv (yMove rfl) ?_
    refine sv (yGtr rfl rfl) ?_
    refine nil ?_
    show Code.wp _ _ _ _ _
    refine cond rfl (fun c21 => ?_) (fun c21 => ?_)
    ·
      simp only [Bool.and_eq_true, Bool.or_eq_true, Bool.and_eq_false_iff, Bool.or_eq_false_iff, decide_eq_true_eq, decide_eq_false_iff_not, Bool.not_eq_true, Bool.not_eq_false, Bool.not_not, Bool.not_eq_eq_eq_not, Bool.not_true, Bool.not_false, Bool.false_eq_true, Bool.true_eq_false, ne_eq, Decidable.not_not, not_false_eq_true, not_true_eq_false] at c21
      refine region ?_
      refine sv (yMove h3) ?_
      refine sv (yMove h4) ?_
      refine sbslice hS Tryz.underlying34 Tryz.sizeOf3 rfl Tryz.zeroValue3 rfl (.cons rfl rfl .nil) rfl ?_; clear hS; intro b24 w hS
      refine sapp (bytes := 8) (size := 1) (v := v) (m := 1) hS rfl rfl Tryz.underlying34 ti3 rfl rfl rfl rfl (by decide) (blk_cells (hS.at _)) rfl rfl (by omega) (by omega) ?_; clear hS; intro v25 w hS
      refine sv (yAsg rfl) ?_
      refine nil ?_
      show Code.wp _ _ _ _ _
      refine region ?_
      refine sv (yMove h4) ?_
      refine sv (yAdd rfl rfl ⟨by omega, by omega⟩) ?_
      refine sv (yAsg rfl) ?_
      refine nil ?_
      exact ⟨_, _, rfl, ⟨k + 1, _, h1, rfl, rfl, (by rw [take_snoc (idxL_get hkn), List.filter_append, List.filter_cons_of_pos (by simpa using c21), List.filter_nil, List.flatMap_append, List.length_append]; exact hS.sub (.cons _ (.cons _ (List.Sublist.refl _)))), (by omega), rfl⟩, by omega⟩
    ·
      simp only [Bool.and_eq_true, Bool.or_eq_true, Bool.and_eq_false_iff, Bool.or_eq_false_iff, decide_eq_true_eq, decide_eq_false_iff_not, Bool.not_eq_true, Bool.not_eq_false, Bool.not_not, Bool.not_eq_eq_eq_not, Bool.not_true, Bool.not_false, Bool.false_eq_true, Bool.true_eq_false, ne_eq, Decidable.not_not, not_false_eq_true, not_true_eq_false] at c21
      refine skip ?_
      show Code.wp _ _ _ _ _
      refine region ?_
      refine sv (yMove h4) ?_
      refine sv (yAdd rfl rfl ⟨by omega, by omega⟩) ?_
      refine sv (yAsg rfl) ?_
      refine nil ?_
      exact ⟨_, _, rfl, ⟨k + 1, _, h1, h3, rfl, (by rw [take_snoc (idxL_get hkn), List.filter_append, List.filter_cons_of_neg (by simpa using c21), List.filter_nil, List.append_nil]; exact hS.sub (.cons _ (List.Sublist.refl _))), (by omega), rfl⟩, by omega⟩
  ·
    simp only [Bool.and_eq_true, Bool.or_eq_true, Bool.and_eq_false_iff, Bool.or_eq_false_iff, decide_eq_true_eq, decide_eq_false_iff_not, Bool.not_eq_true, Bool.not_eq_false, Bool.not_not, Bool.not_eq_eq_eq_not, Bool.not_true, Bool.not_false, Bool.false_eq_true, Bool.true_eq_false, ne_eq, Decidable.not_not, not_false_eq_true, not_true_eq_false] at c11
    obtain rfl : k = t.towns.length := by omega
    rw [show (idxL t).take t.towns.length = idxL t by rw [← idxL_len]; exact List.take_length] at hS
    refine exit ?_
    show Code.wp _ _ _ _ _
    refine seq ?_
    refine region ?_
    refine sv (yMove h3) ?_
    refine sv (yAsg rfl) ?_
    refine nil ?_
    show Code.wp _ _ _ _ _
    refine wp_ret ?_
    refine retQ (res1 rfl rfl) ?_
    exact hS.sub (.cons_cons _ (List.nil_sublist _))
set_option maxHeartbeats 4000000 in
/-- barrage/barrageref11.Zones -/
theorem c_rZones {t : Task} {hv nv fv : Value} {now wd : Int} {w0 : World} (h : RTask w0 [.int .i64 t.polders, hv, nv, fv] t) (_ : I64 now) (_ : I64 wd) : CE Tryz.prog 29 #[.agg [.int .i64 t.polders, hv, nv, fv].toArray, .int .i64 now, .int .i64 wd] w0 (fun u w' => ∃ lv, u = .tuple #[lv, .int .i64 (zonesR t now wd).2] ∧ Sl w' 1 RRow lv (zonesR t now wd).1 ∧ Ext w0 w') := by
  obtain ⟨hv', nv', fv', he0, hpol, hsh, hsn, hsf⟩ := id h
  obtain ⟨rfl, rfl, rfl⟩ : hv' = hv ∧ nv' = nv ∧ fv' = fv := by simpa [eq_comm] using he0
  obtain ⟨a1, cap1, rfl, hcap1, hmx1, hel1⟩ := id hsh
  obtain ⟨a2, cap2, rfl, hcap2, hmx2, hel2⟩ := id hsn
  obtain ⟨a3, cap3, rfl, hcap3, hmx3, hel3⟩ := id hsf
  refine enter Tryz.func29 rfl Tryz.ntmps29 rfl ?_
  have hS := St.start w0
  refine seq ?_
  refine region ?_
  refine sbox hS rfl rfl ?_; clear hS; intro b3 w hS
  refine sv (yAsg rfl) ?_
  refine sv (yAsg rfl) ?_
  refine nil ?_
  show Code.wp _ _ _ _ _
  refine seq ?_
  refine region ?_
  refine sv (yLdBA rfl Tryz.isAgg26 Tryz.sizeOf26 (hS.at _) rfl rfl) ?_
  refine scall Tryz.call77 (.cons rfl .nil) (c_rgood (h.ext hS.ext)) ?_
  rintro _ w ⟨rfl, hE⟩; replace hS := hS.step hE; clear hE
  refine sv (yAsg rfl) ?_
  refine nil ?_
  show Code.wp _ _ _ _ _
  refine seqJ (n := 74) (fun f w => f 1 = .int .i64 now ∧ f 2 = .int .i64 wd ∧ f 3 = .pointer (some ⟨b3, 0, none⟩) ∧ f 8 = .int .i64 (zE0 t now wd) ∧ StX [] w0 w [blk b3 [.int .i64 t.polders, .slice a1 t.chans.length cap1, .slice a2 t.towns.length cap2, .slice a3 t.floods.length cap3] 26] ∧ True) ?_ ?_
  ·
    refine seq ?_
    refine region ?_
    refine sv (yMove rfl) ?_
    refine sv (yEql rfl rfl) ?_
    refine sv (yMove rfl) ?_
    refine sg rfl rfl rfl (fun g => (yMove rfl)) (fun v18 g18 => ?_)
    refine sgc hS rfl rfl rfl Tryz.call73 (fun g => (.cons (g18.1 g) .nil)) (fun g => c_rtick) ?_; clear hS; intro v19 w hS g19
    refine sg rfl rfl rfl (fun g => (yNot (g19.1 g))) (fun v20 g20 => ?_)
    refine sg rfl rfl rfl (fun g => (yMove (g20.1 g))) (fun v21 g21 => ?_)
    refine sgg rfl rfl g21 (fun g => (yMove rfl)) (fun v22 g22 => ?_)
    refine sggc hS rfl rfl g21 Tryz.call66 (fun g => (.cons (g22.1 g) (.cons rfl (.cons rfl .nil)))) (fun g => c_rin) ?_; clear hS; intro v23 w hS g23
    refine sgg rfl rfl g21 (fun g => (yNot (g23.1 g))) (fun v24 g24 => ?_)
    refine sg rfl rfl rfl (fun g => (yOr (g21.1 g) rfl (fun hB => (g24.1 ⟨g, hB⟩)))) (fun v25 g25 => ?_)
    refine sv (yAnd rfl (fun hB => (g25.1 hB)) rfl) ?_
    refine nil ?_
    show Code.wp _ _ _ _ _
    refine cond rfl (fun c26 => ?_) (fun c26 => ?_)
    ·
      refine region ?_
      refine sv (yAsg rfl) ?_
      refine nil ?_
      exact ⟨_, rfl, rfl, rfl, rfl, (rfl.trans (congrArg (Value.int .i64) ((zE0_y c26).symm))), hS, trivial⟩
    ·
      refine skip ?_
      exact ⟨_, rfl, rfl, rfl, rfl, (rfl.trans (congrArg (Value.int .i64) ((zE0_n c26).symm))), hS, trivial⟩
  ·
    clear hS; rintro f w ⟨h1, h2, h3, h8, hS, -⟩
    refine seq ?_
    refine seq ?_
    refine region ?_
    refine sv (yMove h8) ?_
    refine sv (yNeq rfl rfl) ?_
    refine nil ?_
    show Code.wp _ _ _ _ _
    refine cond rfl (fun c28 => ?_) (fun c28 => ?_)
    ·
      simp only [Bool.and_eq_true, Bool.or_eq_true, Bool.and_eq_false_iff, Bool.or_eq_false_iff, decide_eq_true_eq, decide_eq_false_iff_not, Bool.not_eq_true, Bool.not_eq_false, Bool.not_not, Bool.not_eq_eq_eq_not, Bool.not_true, Bool.not_false, Bool.false_eq_true, Bool.true_eq_false, ne_eq, Decidable.not_not, not_false_eq_true, not_true_eq_false] at c28
      refine seq ?_
      refine region ?_
      refine sv (yMove h8) ?_
      refine sv (yAsg rfl) ?_
      refine sv (yAsg rfl) ?_
      refine nil ?_
      show Code.wp _ _ _ _ _
      refine wp_ret (thenR ?_)
      refine retQ (res2 rfl rfl rfl) ?_
      rw [zones_err rfl c28]
      exact ⟨_, rfl, Sl.nil, hS.ext⟩
    ·
      simp only [Bool.and_eq_true, Bool.or_eq_true, Bool.and_eq_false_iff, Bool.or_eq_false_iff, decide_eq_true_eq, decide_eq_false_iff_not, Bool.not_eq_true, Bool.not_eq_false, Bool.not_not, Bool.not_eq_eq_eq_not, Bool.not_true, Bool.not_false, Bool.false_eq_true, Bool.true_eq_false, ne_eq, Decidable.not_not, not_false_eq_true, not_true_eq_false] at c28
      have hz0 := c28
      obtain ⟨hck, hn, hwd⟩ := zE0_ok hz0
      have hok := task_ok hck
      have hn8 := hok.ntw
      have hwl := wetL_len t
      refine skip ?_
      show Code.wp _ _ _ _ _
      refine seq ?_
      refine region ?_
      refine sv (yAsg rfl) ?_
      refine nil ?_
      show Code.wp _ _ _ _ _
      refine seq ?_
      refine region_mix (fun w => StX [] w0 w [blk b3 [.int .i64 t.polders, .slice a1 t.chans.length cap1, .slice a2 t.towns.length cap2, .slice a3 t.floods.length cap3] 26]) 5 mixed hS ?_
      clear hS; intro w hS
      refine f_step 0 (by kernel_rfl) rfl (fun c a a' w h => by obtain ⟨_, v, hv, _⟩ := h; cases hv) (by first | exact hS | exact hS.sub (.cons _ (List.Sublist.refl _)) | exact hS.sub (.cons _ (.cons _ (List.Sublist.refl _)))) (fun w hS => (yLdBA h3 Tryz.isAgg26 Tryz.sizeOf26 (hS.at _) rfl rfl)) ?_
      refine f_step 1 (by kernel_rfl) rfl (fun c a a' w h => by obtain ⟨_, v, hv, _⟩ := h; cases hv) (by first | exact hS | exact hS.sub (.cons _ (List.Sublist.refl _)) | exact hS.sub (.cons _ (.cons _ (List.Sublist.refl _)))) (fun w hS => (yLdBA h3 Tryz.isAgg26 Tryz.sizeOf26 (hS.at _) rfl rfl)) ?_
      show wpA _ _ _ _ _ _ _ _ _ _
      refine a_step (i := 2) (is := []) (by kernel_rfl) ⟨?_, trivial⟩
      refine ⟨_, rfl, ?_⟩
      refine scall Tryz.call79 (.cons rfl .nil) (c_rwet (h.ext hS.ext) hok) ?_
      rintro tv w hM; replace hS := hS.call1 hM; clear hM
      obtain ⟨at7, ct7, rfl⟩ := row_shape (hS.row tv)
      refine nil ?_
      refine ⟨fun _ => (by first | exact hS | exact hS.sub (.cons _ (List.Sublist.refl _)) | exact hS.sub (.cons _ (.cons _ (List.Sublist.refl _)))), ?_⟩
      show wpA _ _ _ _ _ _ _ _ _ _
      show wpA _ _ _ _ _ _ _ _ _ _
      refine a_step (i := 3) (is := []) (by kernel_rfl) ⟨?_, trivial⟩
      refine ⟨_, rfl, ?_⟩
      refine scall Tryz.call78 (.cons rfl (.cons rfl .nil)) (c_rbyE (h.ext hS.ext) hok (sl_ints (hS.row (.slice at7 (wetL t).length ct7)) rfl (fun x hx => by have := wet_mem hx; constructor <;> omega)) (fun x hx => wet_mem hx) (by omega)) ?_
      rintro ov w hM; replace hS := hS.call1 hM; clear hM
      rw [sort_same _ (wetL_asc t)] at hS
      obtain ⟨aw, cw, rfl⟩ := row_shape (hS.row ov)
      have hol := ordZ_len t
      refine nil ?_
      refine ⟨fun _ => (by first | exact hS | exact hS.sub (.cons _ (List.Sublist.refl _)) | exact hS.sub (.cons _ (.cons _ (List.Sublist.refl _)))), ?_⟩
      show wpA _ _ _ _ _ _ _ _ _ _
      refine f_step 4 (by kernel_rfl) rfl (fun c a a' w h => by obtain ⟨_, v, hv, _⟩ := h; cases hv) (by first | exact hS | exact hS.sub (.cons _ (List.Sublist.refl _)) | exact hS.sub (.cons _ (.cons _ (List.Sublist.refl _)))) (fun w hS => (yAsg rfl)) ?_
      refine a_end (by kernel_rfl) ?_
      show Code.wp _ _ _ _ _
      refine seq ?_
      refine seq ?_
      refine region ?_
      refine sv (yAsg rfl) ?_
      refine nil ?_
      show Code.wp _ _ _ _ _
      refine block ?_
      refine loop (fun f w zz => ∃ (k : Nat) (lv : Value) (vs : List Value), f 1 = .int .i64 now ∧ f 2 = .int .i64 wd ∧ f 3 = .pointer (some ⟨b3, 0, none⟩) ∧ f 9 = lv ∧ f 10 = .slice aw (wetL t).length cw ∧ f 11 = .int .i64 (k : Int) ∧ StX [] w0 w [packI (inI vs (zFold (zoneZ t now wd) ((ordZ t).take k))), rowI (lv) 34 1 (zFold (zoneZ t now wd) ((ordZ t).take k)).length vs, rowI (.slice aw (wetL t).length cw) 3 1 (wetL t).length ((ordZ t).flatMap Bx.encI), blk b3 [.int .i64 t.polders, .slice a1 t.chans.length cap1, .slice a2 t.towns.length cap2, .slice a3 t.floods.length cap3] 26] ∧ (k ≤ (wetL t).length) ∧ (vs.length = (zFold (zoneZ t now wd) ((ordZ t).take k)).length) ∧ (∀ i ∈ (ordZ t).take k, zoneZ t now wd i < 50) ∧ zz = (wetL t).length - k) _ ⟨_, rfl, 0, _, [], h1, h2, h3, rfl, rfl, rfl, (StX.pack (M := []) ((hS.sub (.cons_cons _ (.cons _ (.cons_cons _ (List.nil_sublist _))))).nilrow 34 1)), (Nat.zero_le _), (rfl), (fun i hi => by simp at hi), rfl⟩ ?_
      clear hS
      rintro f w _ ⟨k, lv, vs, h1, h2, h3, h9, h10, h11, hS, hk, hvl, h50, rfl⟩
      refine seq ?_
      refine seq ?_
      refine region ?_
      refine sv (yMove h11) ?_
      refine sv (yMove h10) ?_
      refine sv (yLen rfl Tryz.underlying34) ?_
      refine sv (yLss rfl rfl) ?_
      refine nil ?_
      show Code.wp _ _ _ _ _
      refine cond rfl (fun c37 => ?_) (fun c37 => ?_)
      ·
        simp only [Bool.and_eq_true, Bool.or_eq_true, Bool.and_eq_false_iff, Bool.or_eq_false_iff, decide_eq_true_eq, decide_eq_false_iff_not, Bool.not_eq_true, Bool.not_eq_false, Bool.not_not, Bool.not_eq_eq_eq_not, Bool.not_true, Bool.not_false, Bool.false_eq_true, Bool.true_eq_false, ne_eq, Decidable.not_not, not_false_eq_true, not_true_eq_false] at c37
        obtain ⟨i, hxi, -⟩ := drop_of (l := ordZ t) (k := k) (by omega)
        have him := List.mem_of_getElem? hxi
        have hib := wet_mem (mem_ordZ.1 him)
        have hab := arr_bd hok hib
        obtain ⟨go, hao, -⟩ := row_get (hS.row (.slice aw (wetL t).length cw)) (by omega)
        refine skip ?_
        show Code.wp _ _ _ _ _
        refine seq ?_
        refine block ?_
        refine seq ?_
        refine region_draw mixed (by kernel_rfl) hS ?_
        refine qv (fun w hS => (yLdBA h3 Tryz.isAgg26 Tryz.sizeOf26 (hS.at _) rfl rfl)) ?_
        refine qv (fun w hS => (yMove h10)) ?_
        refine qv (fun w hS => (yMove h11)) ?_
        refine qv (fun w hS => (yIxa rfl hao rfl Tryz.runUnderlying34 Tryz.sizeOf3 (by omega) (by omega))) ?_
        refine qv (fun w hS => (yLd rfl Tryz.isAgg3 ((flat_cells (enc := Bx.encI) encI_len (row_at (hS.row (.slice aw (wetL t).length cw)) hao (by omega)) hxi).one))) ?_
        refine qcall Tryz.call80 (.cons rfl (.cons rfl .nil)) (fun w hS => (c_rearl (h.ext hS.ext) hok hib)) ?_
        refine qv (fun w hS => (yMove h1)) ?_
        refine qv (fun w hS => (ySub rfl rfl ⟨by omega, by omega⟩)) ?_
        refine qv (fun w hS => (yMax rfl rfl)) ?_
        refine qv (fun w hS => (yMove h2)) ?_
        refine qv (fun w hS => (yQuoP rfl rfl ⟨by omega, by omega⟩ (by omega))) ?_
        refine qv (fun w hS => (yAsg rfl)) ?_
        clear hS; refine qnil (fun w hS => ?_)
        show Code.wp _ _ _ _ _
        refine seq ?_
        refine seq ?_
        refine region ?_
        refine sv (yMove rfl) ?_
        refine sv (yGeq rfl rfl) ?_
        refine nil ?_
        show Code.wp _ _ _ _ _
        refine cond rfl (fun c52 => ?_) (fun c52 => ?_)
        ·
          simp only [Bool.and_eq_true, Bool.or_eq_true, Bool.and_eq_false_iff, Bool.or_eq_false_iff, decide_eq_true_eq, decide_eq_false_iff_not, Bool.not_eq_true, Bool.not_eq_false, Bool.not_not, Bool.not_eq_eq_eq_not, Bool.not_true, Bool.not_false, Bool.false_eq_true, Bool.true_eq_false, ne_eq, Decidable.not_not, not_false_eq_true, not_true_eq_false] at c52
          refine seq ?_
          refine region ?_
          refine sv (yAsg rfl) ?_
          refine sv (yAsg rfl) ?_
          refine nil ?_
          show Code.wp _ _ _ _ _
          refine wp_ret (thenR (blockR (thenR (thenR (blockR (thenR ?_))))))
          refine retQ (res2 rfl rfl rfl) ?_
          rw [zones_far hz0 him c52]
          exact ⟨_, rfl, Sl.nil, hS.ext⟩
        ·
          simp only [Bool.and_eq_true, Bool.or_eq_true, Bool.and_eq_false_iff, Bool.or_eq_false_iff, decide_eq_true_eq, decide_eq_false_iff_not, Bool.not_eq_true, Bool.not_eq_false, Bool.not_not, Bool.not_eq_eq_eq_not, Bool.not_true, Bool.not_false, Bool.false_eq_true, Bool.true_eq_false, ne_eq, Decidable.not_not, not_false_eq_true, not_true_eq_false] at c52
          have hzp := zoneZ_bd (t := t) (now := now) (i := i) hwd.1
          obtain ⟨z, hz⟩ : ∃ z : Nat, zoneZ t now wd i = (z : Int) := ⟨(zoneZ t now wd i).toNat, by omega⟩
          have hzl5 : zoneZ t now wd i < 50 := by have : ¬ 50 ≤ zoneZ t now wd i := c52; omega
          refine skip ?_
          show Code.wp _ _ _ _ _
          refine seq ?_
          refine block ?_
          refine loop (fun f w zz => ∃ (m : Nat) (lv : Value) (vs : List Value), f 1 = .int .i64 now ∧ f 2 = .int .i64 wd ∧ f 3 = .pointer (some ⟨b3, 0, none⟩) ∧ f 9 = lv ∧ f 10 = .slice aw (wetL t).length cw ∧ f 11 = .int .i64 (k : Int) ∧ f 12 = .int .i64 (zoneZ t now wd i) ∧ StX [] w0 w [packI (inI vs (padZ (zFold (zoneZ t now wd) ((ordZ t).take k)) m)), rowI (lv) 34 1 (padZ (zFold (zoneZ t now wd) ((ordZ t).take k)) m).length vs, rowI (.slice aw (wetL t).length cw) 3 1 (wetL t).length ((ordZ t).flatMap Bx.encI), blk b3 [.int .i64 t.polders, .slice a1 t.chans.length cap1, .slice a2 t.towns.length cap2, .slice a3 t.floods.length cap3] 26] ∧ (vs.length = (padZ (zFold (zoneZ t now wd) ((ordZ t).take k)) m).length) ∧ (m ≤ z + 1 - (zFold (zoneZ t now wd) ((ordZ t).take k)).length) ∧ zz = z + 1 - (zFold (zoneZ t now wd) ((ordZ t).take k)).length - m) _ ⟨_, rfl, 0, _, vs, h1, h2, h3, h9, h10, h11, rfl, (by rw [padZ_0]; exact hS), (by rw [padZ_0]; exact hvl), (Nat.zero_le _), rfl⟩ ?_
          clear hS
          rintro f w _ ⟨m, lv, vs, h1, h2, h3, h9, h10, h11, h12, hS, hvl, hm, rfl⟩
          obtain ⟨a6, c6, rfl⟩ := row_shape (hS.row lv)
          have hpl := padZ_len (zFold (zoneZ t now wd) ((ordZ t).take k)) m
          refine seq ?_
          refine seq ?_
          refine region ?_
          refine sv (yMove h9) ?_
          refine sv (yLen rfl Tryz.underlying24) ?_
          refine sv (yMove h12) ?_
          refine sv (yLeq rfl rfl) ?_
          refine nil ?_
          show Code.wp _ _ _ _ _
          refine cond rfl (fun c56 => ?_) (fun c56 => ?_)
          ·
            simp only [Bool.and_eq_true, Bool.or_eq_true, Bool.and_eq_false_iff, Bool.or_eq_false_iff, decide_eq_true_eq, decide_eq_false_iff_not, Bool.not_eq_true, Bool.not_eq_false, Bool.not_not, Bool.not_eq_eq_eq_not, Bool.not_true, Bool.not_false, Bool.false_eq_true, Bool.true_eq_false, ne_eq, Decidable.not_not, not_false_eq_true, not_true_eq_false] at c56
            refine skip ?_
            show Code.wp _ _ _ _ _
            refine block ?_
            refine region ?_
            refine sv (yMove h9) ?_
            refine sbslice hS Tryz.underlying24 Tryz.sizeOf34 rfl Tryz.zeroValue34 rfl (.cons rfl rfl .nil) rfl ?_; clear hS; intro b58 w hS
            refine sapp (bytes := 24) (size := 1) (v := (.slice a6 (padZ (zFold (zoneZ t now wd) ((ordZ t).take k)) m).length c6)) (m := 1) hS rfl rfl Tryz.underlying24 ti34 rfl rfl rfl rfl (by decide) (blk_cells (hS.at _)) rfl rfl (by omega) (by omega) ?_; clear hS; intro v59 w hS
            refine sv (yAsg rfl) ?_
            refine nil ?_
            exact ⟨_, _, rfl, ⟨m + 1, _, vs ++ [.slice none 0 0], h1, h2, h3, rfl, h10, h11, h12, (by rw [padZ_succ, inI_snoc hvl, List.length_append]; exact ((hS.sub (.cons _ (List.Sublist.refl _))).nilrow 3 1).packs), (by rw [padZ_succ, List.length_append, List.length_append, hvl]; rfl), (by omega), rfl⟩, by omega⟩
          ·
            simp only [Bool.and_eq_true, Bool.or_eq_true, Bool.and_eq_false_iff, Bool.or_eq_false_iff, decide_eq_true_eq, decide_eq_false_iff_not, Bool.not_eq_true, Bool.not_eq_false, Bool.not_not, Bool.not_eq_eq_eq_not, Bool.not_true, Bool.not_false, Bool.false_eq_true, Bool.true_eq_false, ne_eq, Decidable.not_not, not_false_eq_true, not_true_eq_false] at c56
            obtain rfl : m = z + 1 - (zFold (zoneZ t now wd) ((ordZ t).take k)).length := by rw [padZ_len] at c56; omega
            have hzl : z < (padZ (zFold (zoneZ t now wd) ((ordZ t).take k)) (z + 1 - (zFold (zoneZ t now wd) ((ordZ t).take k)).length)).length := by rw [padZ_len]; omega
            obtain ⟨g6, rfl, -⟩ := row_get (hS.row (.slice a6 (padZ (zFold (zoneZ t now wd) ((ordZ t).take k)) (z + 1 - (zFold (zoneZ t now wd) ((ordZ t).take k)).length)).length c6)) (by omega)
            obtain ⟨v0, hv0⟩ : ∃ v0, vs[z]? = some v0 := ⟨_, List.getElem?_eq_getElem (by omega)⟩
            obtain ⟨z0, hz0⟩ : ∃ z0, (padZ (zFold (zoneZ t now wd) ((ordZ t).take k)) (z + 1 - (zFold (zoneZ t now wd) ((ordZ t).take k)).length))[z]? = some z0 := ⟨_, List.getElem?_eq_getElem hzl⟩
            have hnx := zone_set hxi hz hz0
            have hin := inI_get hv0 hz0
            have hrv : w.ownsRow 0 3 1 v0 z0.length (z0.flatMap Bx.encI) := hS.inpack (by simp) hin
            obtain ⟨a0, c0, rfl⟩ := row_shape hrv
            have hzz : z0.length ≤ k := by have := zFold_row hxi hz hz0; exact this
            rw [inI_split hv0 hz0] at hS
            replace hS := hS.takeI
            replace hS : StX [] w0 w (rowI (.slice a0 z0.length c0) 3 1 z0.length (z0.flatMap Bx.encI) :: packI _ :: rowI (.slice (some ⟨g6, 0, none⟩) (padZ (zFold (zoneZ t now wd) ((ordZ t).take k)) (z + 1 - (zFold (zoneZ t now wd) ((ordZ t).take k)).length)).length c6) 34 1 (padZ (zFold (zoneZ t now wd) ((ordZ t).take k)) (z + 1 - (zFold (zoneZ t now wd) ((ordZ t).take k)).length)).length vs :: rowI (.slice aw (wetL t).length cw) 3 1 (wetL t).length ((ordZ t).flatMap Bx.encI) :: blk b3 [.int .i64 t.polders, .slice a1 t.chans.length cap1, .slice a2 t.towns.length cap2, .slice a3 t.floods.length cap3] 26 :: []) := hS
            refine exit ?_
            show Code.wp _ _ _ _ _
            refine region_mix (fun w => StX [] w0 w (rowI (.slice (some ⟨g6, 0, none⟩) (padZ (zFold (zoneZ t now wd) ((ordZ t).take k)) (z + 1 - (zFold (zoneZ t now wd) ((ordZ t).take k)).length)).length c6) 34 1 (padZ (zFold (zoneZ t now wd) ((ordZ t).take k)) (z + 1 - (zFold (zoneZ t now wd) ((ordZ t).take k)).length)).length vs :: rowI (.slice aw (wetL t).length cw) 3 1 (wetL t).length ((ordZ t).flatMap Bx.encI) :: blk b3 [.int .i64 t.polders, .slice a1 t.chans.length cap1, .slice a2 t.towns.length cap2, .slice a3 t.floods.length cap3] 26 :: [])) 13 mixed hS ?_
            clear hS; intro w hS
            refine f_step 0 (by kernel_rfl) rfl (fun c a a' w h => by obtain ⟨_, v, hv, _⟩ := h; cases hv) (by first | exact hS.sub (.cons _ (List.Sublist.refl _)) | exact hS.sub (.cons _ (.cons _ (List.Sublist.refl _))) | exact hS.sub (.cons _ (.cons _ (.cons _ (List.Sublist.refl _)))) | exact hS.sub (.cons _ (.cons _ (.cons _ (.cons _ (List.Sublist.refl _)))))) (fun w hS => (yMove h9)) ?_
            refine f_step 1 (by kernel_rfl) rfl (fun c a a' w h => by obtain ⟨_, v, hv, _⟩ := h; cases hv) (by first | exact hS.sub (.cons _ (List.Sublist.refl _)) | exact hS.sub (.cons _ (.cons _ (List.Sublist.refl _))) | exact hS.sub (.cons _ (.cons _ (.cons _ (List.Sublist.refl _)))) | exact hS.sub (.cons _ (.cons _ (.cons _ (.cons _ (List.Sublist.refl _)))))) (fun w hS => (yMove h12)) ?_
            refine f_step 2 (by kernel_rfl) rfl (fun c a a' w h => by obtain ⟨_, v, hv, _⟩ := h; cases hv) (by first | exact hS.sub (.cons _ (List.Sublist.refl _)) | exact hS.sub (.cons _ (.cons _ (List.Sublist.refl _))) | exact hS.sub (.cons _ (.cons _ (.cons _ (List.Sublist.refl _)))) | exact hS.sub (.cons _ (.cons _ (.cons _ (.cons _ (List.Sublist.refl _)))))) (fun w hS => (yMove h9)) ?_
            refine f_step 3 (by kernel_rfl) rfl (fun c a a' w h => by obtain ⟨_, v, hv, _⟩ := h; cases hv) (by first | exact hS.sub (.cons _ (List.Sublist.refl _)) | exact hS.sub (.cons _ (.cons _ (List.Sublist.refl _))) | exact hS.sub (.cons _ (.cons _ (.cons _ (List.Sublist.refl _)))) | exact hS.sub (.cons _ (.cons _ (.cons _ (.cons _ (List.Sublist.refl _)))))) (fun w hS => (yMove h12)) ?_
            refine f_step 4 (by kernel_rfl) rfl (fun c a a' w h => by obtain ⟨_, v, hv, _⟩ := h; cases hv) (by first | exact hS.sub (.cons _ (List.Sublist.refl _)) | exact hS.sub (.cons _ (.cons _ (List.Sublist.refl _))) | exact hS.sub (.cons _ (.cons _ (.cons _ (List.Sublist.refl _)))) | exact hS.sub (.cons _ (.cons _ (.cons _ (.cons _ (List.Sublist.refl _)))))) (fun w hS => (yIx0 (m := z) rfl (rfl.trans (congrArg (Value.int .i64) hz)) Tryz.runUnderlying24 Tryz.sizeOf34 (by omega))) ?_
            refine f_step 5 (by kernel_rfl) rfl (fun c a a' w h => by obtain ⟨_, v, hv, _⟩ := h; cases hv) (by first | exact hS.sub (.cons _ (List.Sublist.refl _)) | exact hS.sub (.cons _ (.cons _ (List.Sublist.refl _))) | exact hS.sub (.cons _ (.cons _ (.cons _ (List.Sublist.refl _)))) | exact hS.sub (.cons _ (.cons _ (.cons _ (.cons _ (List.Sublist.refl _)))))) (fun w hS => (yLd rfl Tryz.isAgg34 (out_cell (row_at (hS.row (.slice (some ⟨g6, 0, none⟩) (padZ (zFold (zoneZ t now wd) ((ordZ t).take k)) (z + 1 - (zFold (zoneZ t now wd) ((ordZ t).take k)).length)).length c6)) rfl (by omega)) hv0))) ?_
            refine f_step 6 (by kernel_rfl) rfl (fun c a a' w h => by obtain ⟨_, v, hv, _⟩ := h; cases hv) (by first | exact hS.sub (.cons _ (List.Sublist.refl _)) | exact hS.sub (.cons _ (.cons _ (List.Sublist.refl _))) | exact hS.sub (.cons _ (.cons _ (.cons _ (List.Sublist.refl _)))) | exact hS.sub (.cons _ (.cons _ (.cons _ (.cons _ (List.Sublist.refl _)))))) (fun w hS => (yMove h10)) ?_
            refine f_step 7 (by kernel_rfl) rfl (fun c a a' w h => by obtain ⟨_, v, hv, _⟩ := h; cases hv) (by first | exact hS.sub (.cons _ (List.Sublist.refl _)) | exact hS.sub (.cons _ (.cons _ (List.Sublist.refl _))) | exact hS.sub (.cons _ (.cons _ (.cons _ (List.Sublist.refl _)))) | exact hS.sub (.cons _ (.cons _ (.cons _ (.cons _ (List.Sublist.refl _)))))) (fun w hS => (yMove h11)) ?_
            refine f_step 8 (by kernel_rfl) rfl (fun c a a' w h => by obtain ⟨_, v, hv, _⟩ := h; cases hv) (by first | exact hS.sub (.cons _ (List.Sublist.refl _)) | exact hS.sub (.cons _ (.cons _ (List.Sublist.refl _))) | exact hS.sub (.cons _ (.cons _ (.cons _ (List.Sublist.refl _)))) | exact hS.sub (.cons _ (.cons _ (.cons _ (.cons _ (List.Sublist.refl _)))))) (fun w hS => (yIxa rfl hao rfl Tryz.runUnderlying34 Tryz.sizeOf3 (by omega) (by omega))) ?_
            refine f_step 9 (by kernel_rfl) rfl (fun c a a' w h => by obtain ⟨_, v, hv, _⟩ := h; cases hv) (by first | exact hS.sub (.cons _ (List.Sublist.refl _)) | exact hS.sub (.cons _ (.cons _ (List.Sublist.refl _))) | exact hS.sub (.cons _ (.cons _ (.cons _ (List.Sublist.refl _)))) | exact hS.sub (.cons _ (.cons _ (.cons _ (.cons _ (List.Sublist.refl _)))))) (fun w hS => (yLd rfl Tryz.isAgg3 ((flat_cells (enc := Bx.encI) encI_len (row_at (hS.row (.slice aw (wetL t).length cw)) hao (by omega)) hxi).one))) ?_
            show wpA _ _ _ _ _ _ _ _ _ _
            refine a_step (i := 10) (is := []) (by kernel_rfl) ⟨?_, trivial⟩
            refine ⟨_, rfl, ?_⟩
            refine sbslice hS Tryz.underlying34 Tryz.sizeOf3 rfl Tryz.zeroValue3 rfl (.cons rfl rfl .nil) rfl ?_; clear hS; intro b70 w hS
            refine nil ?_
            refine ⟨fun _ => (by first | exact hS.sub (.cons _ (List.Sublist.refl _)) | exact hS.sub (.cons _ (.cons _ (List.Sublist.refl _))) | exact hS.sub (.cons _ (.cons _ (.cons _ (List.Sublist.refl _)))) | exact hS.sub (.cons _ (.cons _ (.cons _ (.cons _ (List.Sublist.refl _)))))), ?_⟩
            show wpA _ _ _ _ _ _ _ _ _ _
            show wpA _ _ _ _ _ _ _ _ _ _
            refine a_step (i := 11) (is := []) (by kernel_rfl) ⟨?_, trivial⟩
            refine ⟨_, rfl, ?_⟩
            refine sapp (bytes := 8) (size := 1) (v := (.slice a0 z0.length c0)) (m := 1) hS rfl rfl Tryz.underlying34 ti3 rfl rfl rfl rfl (by decide) (blk_cells (hS.at _)) rfl rfl (by omega) (by omega) ?_; clear hS; intro v71 w hS
            refine nil ?_
            refine ⟨fun _ => (by first | exact hS.sub (.cons _ (List.Sublist.refl _)) | exact hS.sub (.cons _ (.cons _ (List.Sublist.refl _))) | exact hS.sub (.cons _ (.cons _ (.cons _ (List.Sublist.refl _)))) | exact hS.sub (.cons _ (.cons _ (.cons _ (.cons _ (List.Sublist.refl _)))))), ?_⟩
            show wpA _ _ _ _ _ _ _ _ _ _
            refine f_step 12 (by kernel_rfl) rfl (fun c a a' w h => by obtain ⟨_, v, hv, _⟩ := h; cases hv) (by first | exact hS.sub (.cons _ (List.Sublist.refl _)) | exact hS.sub (.cons _ (.cons _ (List.Sublist.refl _))) | exact hS.sub (.cons _ (.cons _ (.cons _ (List.Sublist.refl _)))) | exact hS.sub (.cons _ (.cons _ (.cons _ (.cons _ (List.Sublist.refl _)))))) (fun w hS => (yIx0 (m := z) rfl (rfl.trans (congrArg (Value.int .i64) hz)) Tryz.runUnderlying24 Tryz.sizeOf34 (by omega))) ?_
            show wpA _ _ _ _ _ _ _ _ _ _
            refine a_step (i := 13) (is := []) (by kernel_rfl) ⟨?_, trivial⟩
            refine ⟨_, rfl, ?_⟩
            obtain ⟨a71, c71, rfl⟩ := row_shape (hS.row v71)
            refine srst (g := g6) (m := (padZ (zFold (zoneZ t now wd) ((ordZ t).take k)) (z + 1 - (zFold (zoneZ t now wd) ((ordZ t).take k)).length)).length) (cap := c6) (sz := 1) (vs := [.slice a71 (z0.length + 1) c71]) hS rfl rfl Tryz.sizeOf34 rfl rfl (by omega) rfl ?_; clear hS; intro w hS
            rw [splice_one (by omega)] at hS
            refine nil ?_
            refine ⟨fun h => absurd h (by decide), ?_⟩
            show wpA _ _ _ _ _ _ _ _ _ _
            refine a_end (by kernel_rfl) ?_
            show Code.wp _ _ _ _ _
            refine region ?_
            refine sv (yMove h11) ?_
            refine sv (yAdd rfl rfl ⟨by omega, by omega⟩) ?_
            refine sv (yAsg rfl) ?_
            refine nil ?_
            exact ⟨_, _, rfl, ⟨k + 1, _, vs.set z (.slice a71 (z0.length + 1) c71), h1, h2, h3, h9, h10, rfl, (by rw [hnx, inI_set hv0 hz0, List.length_set]; refine StX.putI ?_; unfold inR; rw [List.flatMap_append, List.length_append]; exact hS.sub (.cons _ (List.Sublist.refl _))), (by omega), (by rw [hnx, List.length_set, List.length_set]; exact hvl), (fun q hq => by rw [take_snoc hxi] at hq; rcases List.mem_append.1 hq with hq | hq; exact h50 q hq; rw [List.mem_singleton.1 hq]; omega), rfl⟩, by omega⟩
      ·
        simp only [Bool.and_eq_true, Bool.or_eq_true, Bool.and_eq_false_iff, Bool.or_eq_false_iff, decide_eq_true_eq, decide_eq_false_iff_not, Bool.not_eq_true, Bool.not_eq_false, Bool.not_not, Bool.not_eq_eq_eq_not, Bool.not_true, Bool.not_false, Bool.false_eq_true, Bool.true_eq_false, ne_eq, Decidable.not_not, not_false_eq_true, not_true_eq_false] at c37
        obtain rfl : k = (wetL t).length := by omega
        rw [← hol, List.take_length] at hS hvl h50
        refine exit ?_
        show Code.wp _ _ _ _ _
        refine seq ?_
        refine region ?_
        refine sv (yMove h9) ?_
        refine sv (yAsg rfl) ?_
        refine sv (yAsg rfl) ?_
        refine nil ?_
        show Code.wp _ _ _ _ _
        refine wp_ret ?_
        refine retQ (res2 rfl rfl rfl) ?_
        rw [zones_in hz0 h50]
        exact ⟨_, rfl, sl_rows2 (fun w v z h => ⟨v, rfl, h⟩) hvl (hS.row lv) (fun it hit => hS.inpack (by simp) hit) (fun z hz x hx => by have := wet_mem (mem_ordZ.1 (zFold_mem (fun i _ => zoneZ_bd hwd.1) z hz x hx)); constructor <;> omega), hS.ext⟩
end Go.Proofs.YtmoilbakmlekbaaGreatDoor

/- part Aw40 -/
namespace Go.Proofs.YtmoilbakmlekbaaGreatDoor
open Go Bx
set_option maxHeartbeats 2000000 in
/-- barrage/barragelaw11.AlarmZones -/
theorem w_AlarmZones {t : Task} {cs : List Value} {now wd : Int} {w0 : World} (hg : Glb w0) (h : RTask w0 cs t) (hn6 : I64 now) (hw6 : I64 wd) : CV Tryz.prog 8 #[.agg cs.toArray, .int .i64 now, .int .i64 wd] w0 (.bool true) := by
  obtain ⟨hv, nv, fv, rfl, hpol, hsh, hsn, hsf⟩ := id h
  obtain ⟨a1, cap1, rfl, hcap1, hmx1, hel1⟩ := id hsh
  obtain ⟨a2, cap2, rfl, hcap2, hmx2, hel2⟩ := id hsn
  obtain ⟨a3, cap3, rfl, hcap3, hmx3, hel3⟩ := id hsf
  refine enter Tryz.func8 rfl Tryz.ntmps8 rfl ?_
  have hS := St.start w0
  refine seq ?_
  refine region ?_
  refine sbox hS rfl rfl ?_; clear hS; intro b3 w hS
  refine sv (yAsg rfl) ?_
  refine nil ?_
  show Code.wp _ _ _ _ _
  refine seq ?_
  refine region ?_
  refine sv (yLdBA rfl Tryz.isAgg26 Tryz.sizeOf26 (hS.at _) rfl rfl) ?_
  refine sv (yMove rfl) ?_
  refine sv (yMove rfl) ?_
  refine scall Tryz.call28 (.cons rfl (.cons rfl (.cons rfl .nil))) (c_Zones (hg.ext hS.ext) (h.ext hS.ext)) ?_
  rintro _ w ⟨va, rfl, hKva, hE⟩; replace hS := hS.step hE; clear hE
  refine sv (yMove rfl) ?_
  refine sv (yExt rfl rfl) ?_
  refine sv (yExt rfl rfl) ?_
  refine sv (yAsg rfl) ?_
  refine sv (yAsg rfl) ?_
  refine nil ?_
  show Code.wp _ _ _ _ _
  refine seq ?_
  refine region ?_
  refine sv (yLdBA rfl Tryz.isAgg26 Tryz.sizeOf26 (hS.at _) rfl rfl) ?_
  refine sv (yMove rfl) ?_
  refine sv (yMove rfl) ?_
  refine scall Tryz.call29 (.cons rfl (.cons rfl (.cons rfl .nil))) (c_rZones (h.ext hS.ext) hn6 hw6) ?_
  rintro _ w ⟨vb, rfl, hKvb, hE⟩; replace hKva := hKva.ext RRow.stays hE; replace hS := hS.step hE; clear hE
  refine sv (yMove rfl) ?_
  refine sv (yExt rfl rfl) ?_
  refine sv (yExt rfl rfl) ?_
  refine sv (yAsg rfl) ?_
  refine sv (yAsg rfl) ?_
  refine nil ?_
  show Code.wp _ _ _ _ _
  refine seq ?_
  refine region ?_
  refine sv (yMove rfl) ?_
  refine sv (yMove rfl) ?_
  refine scall Tryz.call30 (.cons rfl (.cons rfl .nil)) (c_Lists hKva hKvb) ?_
  rintro _ w ⟨rfl, hE⟩; replace hS := hS.step hE; clear hE
  refine sv (yMove rfl) ?_
  refine sg rfl rfl rfl (fun g => (yMove rfl)) (fun v29 g29 => ?_)
  refine sg rfl rfl rfl (fun g => (yMove rfl)) (fun v30 g30 => ?_)
  refine sg rfl rfl rfl (fun g => (yEql (g29.1 g) (g30.1 g))) (fun v31 g31 => ?_)
  refine sv (yAnd rfl (fun hB => (g31.1 hB)) rfl) ?_
  refine sv (yMove rfl) ?_
  refine sgc hS rfl rfl rfl Tryz.call20 (fun g => .nil) (fun g => (c_Awake (hg.ext hS.ext))) ?_; clear hS; intro v34 w hS g34
  refine sv (yAnd rfl (fun hB => (g34.1 hB)) rfl) ?_
  refine sv (yAsg rfl) ?_
  refine nil ?_
  show Code.wp _ _ _ _ _
  refine wp_ret ?_
  exact retV (res1 rfl (eqB (by simp))) hS.ext
end Go.Proofs.YtmoilbakmlekbaaGreatDoor

/- part RdF -/
namespace Go.Proofs.YtmoilbakmlekbaaGreatDoor
open Go Bx
section
variable {H : Type} {enc : TypeId × Value → H} {w : World} {base : Nat} {spare : Nat → Bool} {held : Bool} {fuel : Nat} {cs : List Value} {x : DataW H × List MemPlace}
theorem rdF26 (h : DataW.trod enc Tryz.prog w base spare held fuel 26 cs = some x) (hW : WOk Tryz.prog 26 x.1) : ∃ n c0 c1 c2 c3, cs = [c0, c1, c2, c3] ∧ (∃ y, DataW.trod enc Tryz.prog w base spare held n 3 [c0] = some y ∧ WOk Tryz.prog 3 y.1) ∧ (∃ y, DataW.trod enc Tryz.prog w base spare held n 22 [c1] = some y ∧ WOk Tryz.prog 22 y.1) ∧ (∃ y, DataW.trod enc Tryz.prog w base spare held n 23 [c2] = some y ∧ WOk Tryz.prog 23 y.1) ∧ (∃ y, DataW.trod enc Tryz.prog w base spare held n 24 [c3] = some y ∧ WOk Tryz.prog 24 y.1) := by
  have z3 : Tryz.prog.cellsOf 3 = 1 := by kernel_rfl
  have z22 : Tryz.prog.cellsOf 22 = 1 := by kernel_rfl
  have z23 : Tryz.prog.cellsOf 23 = 1 := by kernel_rfl
  have z24 : Tryz.prog.cellsOf 24 = 1 := by kernel_rfl
  obtain ⟨hl, n, hf⟩ := rdw_fields Tryz.underlying26 h hW
  have hz : Tryz.prog.cellsOf 26 = 4 := by kernel_rfl
  rw [hz] at hl
  obtain ⟨c0, c1, c2, c3, rfl⟩ := four_of hl
  have f0 : ∃ y, DataW.trod enc Tryz.prog w base spare held n 3 ((List.drop 0 [c0, c1, c2, c3]).take (Tryz.prog.cellsOf 3)) = some y ∧ WOk Tryz.prog 3 y.1 := hf 0 _ rfl
  rw [z3] at f0
  have f1 : ∃ y, DataW.trod enc Tryz.prog w base spare held n 22 ((List.drop 1 [c0, c1, c2, c3]).take (Tryz.prog.cellsOf 22)) = some y ∧ WOk Tryz.prog 22 y.1 := hf 1 _ rfl
  rw [z22] at f1
  have f2 : ∃ y, DataW.trod enc Tryz.prog w base spare held n 23 ((List.drop 2 [c0, c1, c2, c3]).take (Tryz.prog.cellsOf 23)) = some y ∧ WOk Tryz.prog 23 y.1 := hf 2 _ rfl
  rw [z23] at f2
  have f3 : ∃ y, DataW.trod enc Tryz.prog w base spare held n 24 ((List.drop 3 [c0, c1, c2, c3]).take (Tryz.prog.cellsOf 24)) = some y ∧ WOk Tryz.prog 24 y.1 := hf 3 _ rfl
  rw [z24] at f3
  exact ⟨n, c0, c1, c2, c3, rfl, f0, f1, f2, f3⟩
theorem rdF36 (h : DataW.trod enc Tryz.prog w base spare held fuel 36 cs = some x) (hW : WOk Tryz.prog 36 x.1) : ∃ n c0 c1 c2 c3 c4, cs = [c0, c1, c2, c3, c4] ∧ (∃ y, DataW.trod enc Tryz.prog w base spare held n 9 [c0] = some y ∧ WOk Tryz.prog 9 y.1) ∧ (∃ y, DataW.trod enc Tryz.prog w base spare held n 3 [c1] = some y ∧ WOk Tryz.prog 3 y.1) ∧ (∃ y, DataW.trod enc Tryz.prog w base spare held n 3 [c2] = some y ∧ WOk Tryz.prog 3 y.1) ∧ (∃ y, DataW.trod enc Tryz.prog w base spare held n 3 [c3] = some y ∧ WOk Tryz.prog 3 y.1) ∧ (∃ y, DataW.trod enc Tryz.prog w base spare held n 34 [c4] = some y ∧ WOk Tryz.prog 34 y.1) := by
  have z3 : Tryz.prog.cellsOf 3 = 1 := by kernel_rfl
  have z9 : Tryz.prog.cellsOf 9 = 1 := by kernel_rfl
  have z34 : Tryz.prog.cellsOf 34 = 1 := by kernel_rfl
  obtain ⟨hl, n, hf⟩ := rdw_fields Tryz.underlying36 h hW
  have hz : Tryz.prog.cellsOf 36 = 5 := by kernel_rfl
  rw [hz] at hl
  obtain ⟨c0, c1, c2, c3, c4, rfl⟩ := five_of hl
  have f0 : ∃ y, DataW.trod enc Tryz.prog w base spare held n 9 ((List.drop 0 [c0, c1, c2, c3, c4]).take (Tryz.prog.cellsOf 9)) = some y ∧ WOk Tryz.prog 9 y.1 := hf 0 _ rfl
  rw [z9] at f0
  have f1 : ∃ y, DataW.trod enc Tryz.prog w base spare held n 3 ((List.drop 1 [c0, c1, c2, c3, c4]).take (Tryz.prog.cellsOf 3)) = some y ∧ WOk Tryz.prog 3 y.1 := hf 1 _ rfl
  rw [z3] at f1
  have f2 : ∃ y, DataW.trod enc Tryz.prog w base spare held n 3 ((List.drop 2 [c0, c1, c2, c3, c4]).take (Tryz.prog.cellsOf 3)) = some y ∧ WOk Tryz.prog 3 y.1 := hf 2 _ rfl
  rw [z3] at f2
  have f3 : ∃ y, DataW.trod enc Tryz.prog w base spare held n 3 ((List.drop 3 [c0, c1, c2, c3, c4]).take (Tryz.prog.cellsOf 3)) = some y ∧ WOk Tryz.prog 3 y.1 := hf 3 _ rfl
  rw [z3] at f3
  have f4 : ∃ y, DataW.trod enc Tryz.prog w base spare held n 34 ((List.drop 4 [c0, c1, c2, c3, c4]).take (Tryz.prog.cellsOf 34)) = some y ∧ WOk Tryz.prog 34 y.1 := hf 4 _ rfl
  rw [z34] at f4
  exact ⟨n, c0, c1, c2, c3, c4, rfl, f0, f1, f2, f3, f4⟩
theorem rdF41 (h : DataW.trod enc Tryz.prog w base spare held fuel 41 cs = some x) (hW : WOk Tryz.prog 41 x.1) : ∃ n c0 c1 c2, cs = [c0, c1, c2] ∧ (∃ y, DataW.trod enc Tryz.prog w base spare held n 9 [c0] = some y ∧ WOk Tryz.prog 9 y.1) ∧ (∃ y, DataW.trod enc Tryz.prog w base spare held n 3 [c1] = some y ∧ WOk Tryz.prog 3 y.1) ∧ (∃ y, DataW.trod enc Tryz.prog w base spare held n 3 [c2] = some y ∧ WOk Tryz.prog 3 y.1) := by
  have z3 : Tryz.prog.cellsOf 3 = 1 := by kernel_rfl
  have z9 : Tryz.prog.cellsOf 9 = 1 := by kernel_rfl
  obtain ⟨hl, n, hf⟩ := rdw_fields Tryz.underlying41 h hW
  have hz : Tryz.prog.cellsOf 41 = 3 := by kernel_rfl
  rw [hz] at hl
  obtain ⟨c0, c1, c2, rfl⟩ := three_of hl
  have f0 : ∃ y, DataW.trod enc Tryz.prog w base spare held n 9 ((List.drop 0 [c0, c1, c2]).take (Tryz.prog.cellsOf 9)) = some y ∧ WOk Tryz.prog 9 y.1 := hf 0 _ rfl
  rw [z9] at f0
  have f1 : ∃ y, DataW.trod enc Tryz.prog w base spare held n 3 ((List.drop 1 [c0, c1, c2]).take (Tryz.prog.cellsOf 3)) = some y ∧ WOk Tryz.prog 3 y.1 := hf 1 _ rfl
  rw [z3] at f1
  have f2 : ∃ y, DataW.trod enc Tryz.prog w base spare held n 3 ((List.drop 2 [c0, c1, c2]).take (Tryz.prog.cellsOf 3)) = some y ∧ WOk Tryz.prog 3 y.1 := hf 2 _ rfl
  rw [z3] at f2
  exact ⟨n, c0, c1, c2, rfl, f0, f1, f2⟩
end
end Go.Proofs.YtmoilbakmlekbaaGreatDoor

/- part Rd1 -/
namespace Go.Proofs.YtmoilbakmlekbaaGreatDoor
open Go Bx
theorem rd_Ints : RdW Tryz.prog 34 (fun w cs (l : List Int) => ∃ v, cs = [v] ∧ Sl w 1 RInt v l ∧ l.length * 8 ≤ 140737488351232) := rdw_slice (Rd.w (rd_int Tryz.underlying3)) (by kernel_rfl) (by decide) Tryz.underlying34 (by kernel_rfl)
theorem rd_Row : RdW Tryz.prog 34 RRow := fun H enc w base spare held fuel cs x h hW => by obtain ⟨a, v, e, i, -⟩ := rd_Ints H enc w base spare held fuel cs x h hW; exact ⟨a, v, e, i⟩
theorem rd_Rows : RdW Tryz.prog 24 (fun w cs (l : List (List Int)) => ∃ v, cs = [v] ∧ Sl w 1 RRow v l ∧ l.length * 24 ≤ 140737488351232) := rdw_slice rd_Row (by kernel_rfl) (by decide) Tryz.underlying24 (by kernel_rfl)
theorem rd_Chan : RdW Tryz.prog 41 RChan := by
  intro H enc w base spare held fuel cs x h hW
  obtain ⟨n, c0, c1, c2, rfl, ⟨y0, f0, k0⟩, ⟨y1, f1, k1⟩, ⟨y2, f2, k2⟩⟩ := rdF41 h hW
  obtain ⟨a0, g0⟩ := (Rd.w (rd_str Tryz.underlying9)) _ _ _ _ _ _ _ _ _ f0 k0
  obtain ⟨a1, g1⟩ := (Rd.w (rd_int Tryz.underlying3)) _ _ _ _ _ _ _ _ _ f1 k1
  obtain ⟨a2, g2⟩ := (Rd.w (rd_int Tryz.underlying3)) _ _ _ _ _ _ _ _ _ f2 k2
  obtain ⟨e0, i0⟩ := g0; obtain ⟨e1, i1⟩ := g1; obtain ⟨e2, i2⟩ := g2; cases e0; cases e1; cases e2; exact ⟨⟨a0, a1, a2⟩, rfl, i0, i1, i2⟩
theorem rd_Chans : RdW Tryz.prog 22 (fun w cs (l : List Chan) => ∃ v, cs = [v] ∧ Sl w 3 RChan v l ∧ l.length * 32 ≤ 140737488351232) := rdw_slice rd_Chan (by kernel_rfl) (by decide) Tryz.underlying22 (by kernel_rfl)
theorem rd_Town : RdW Tryz.prog 36 RTown := by
  intro H enc w base spare held fuel cs x h hW
  obtain ⟨n, c0, c1, c2, c3, c4, rfl, ⟨y0, f0, k0⟩, ⟨y1, f1, k1⟩, ⟨y2, f2, k2⟩, ⟨y3, f3, k3⟩, ⟨y4, f4, k4⟩⟩ := rdF36 h hW
  obtain ⟨a0, g0⟩ := (Rd.w (rd_str Tryz.underlying9)) _ _ _ _ _ _ _ _ _ f0 k0
  obtain ⟨a1, g1⟩ := (Rd.w (rd_int Tryz.underlying3)) _ _ _ _ _ _ _ _ _ f1 k1
  obtain ⟨a2, g2⟩ := (Rd.w (rd_int Tryz.underlying3)) _ _ _ _ _ _ _ _ _ f2 k2
  obtain ⟨a3, g3⟩ := (Rd.w (rd_int Tryz.underlying3)) _ _ _ _ _ _ _ _ _ f3 k3
  obtain ⟨a4, g4⟩ := rd_Ints _ _ _ _ _ _ _ _ _ f4 k4
  obtain ⟨e0, i0⟩ := g0; obtain ⟨e1, i1⟩ := g1; obtain ⟨e2, i2⟩ := g2; obtain ⟨e3, i3⟩ := g3; obtain ⟨v4, e4, i4, r4⟩ := g4; cases e0; cases e1; cases e2; cases e3; cases e4; exact ⟨⟨a0, a1, a2, a3, a4⟩, _, rfl, i0, i1, i2, i3, i4, r4⟩
theorem rd_Towns : RdW Tryz.prog 23 (fun w cs (l : List Town) => ∃ v, cs = [v] ∧ Sl w 5 RTown v l ∧ l.length * 64 ≤ 140737488351232) := rdw_slice rd_Town (by kernel_rfl) (by decide) Tryz.underlying23 (by kernel_rfl)
theorem rd_Task : RdW Tryz.prog 26 RTask := by
  intro H enc w base spare held fuel cs x h hW
  obtain ⟨n, c0, c1, c2, c3, rfl, ⟨y0, f0, k0⟩, ⟨y1, f1, k1⟩, ⟨y2, f2, k2⟩, ⟨y3, f3, k3⟩⟩ := rdF26 h hW
  obtain ⟨a0, g0⟩ := (Rd.w (rd_int Tryz.underlying3)) _ _ _ _ _ _ _ _ _ f0 k0
  obtain ⟨a1, g1⟩ := rd_Chans _ _ _ _ _ _ _ _ _ f1 k1
  obtain ⟨a2, g2⟩ := rd_Towns _ _ _ _ _ _ _ _ _ f2 k2
  obtain ⟨a3, g3⟩ := rd_Rows _ _ _ _ _ _ _ _ _ f3 k3
  obtain ⟨e0, i0⟩ := g0; obtain ⟨v1, e1, i1, r1⟩ := g1; obtain ⟨v2, e2, i2, r2⟩ := g2; obtain ⟨v3, e3, i3, r3⟩ := g3; cases e0; cases e1; cases e2; cases e3; exact ⟨⟨a0, a1, a2, a3⟩, _, _, _, rfl, i0, i1, i2, i3⟩
end Go.Proofs.YtmoilbakmlekbaaGreatDoor

/- part Laid -/
namespace Go.Proofs.YtmoilbakmlekbaaGreatDoor
open Go Bx Go.ChangeShapes Go.WideShapes Go.RowKit
theorem laidEt : Tryz.prog.globalNamed "errors.errorType" = some 0 := by kernel_rfl
theorem laidRt : (Tryz.prog.cutTypes.find? (·.1 == "internal/reflectlite.rtype")).map (·.2) = some 217 := by kernel_rfl
theorem laidOne : ((List.range 309).filter fun t => Tryz.prog.rowNamed t [101, 114, 114, 111, 114]) = [120] := by kernel_rfl
theorem laidSize : Tryz.prog.types.size = 309 := by kernel_rfl
theorem glb_of_laid {W : World} (h : laidMetH Tryz.prog [("errors.errorType", Rows.laid_errors_errorType)] W) : Glb W := by
  have h' : laidMet Tryz.prog [] W ∧ handlesMet Tryz.prog [("errors.errorType", Rows.laid_errors_errorType)] W := h
  obtain ⟨name, u, ty, e1, e2, e3, e4, e5⟩ := h'.2 _ (List.mem_singleton.2 rfl)
  have en : name = [101, 114, 114, 111, 114] := (Option.some.inj e1).symm
  subst en
  obtain rfl := Option.some.inj (laidRt.symm.trans e2)
  have hm : ty ∈ (List.range 309).filter fun t => Tryz.prog.rowNamed t [101, 114, 114, 111, 114] := List.mem_filter.2 ⟨List.mem_range.2 (by rw [← laidSize]; exact e3), e4⟩
  rw [laidOne] at hm
  obtain rfl := List.mem_singleton.1 hm
  have hh : typeHandle Tryz.prog 120 = .pointer (some ⟨1, 120, none⟩) := by kernel_rfl
  rw [hh] at e5
  simpa [Glb] using World.var?_cell laidEt e5 0
noncomputable def laidWorld (os : Os) : World :=
  let w0 := World.holding Tryz.prog os ⟨#[], #[], []⟩
  { w0 with heap := w0.heap.modify 0 fun
      | .cells _ t frozen => .cells #[.iface 217 (.agg #[.pointer (some ⟨1, 120, none⟩)])] t frozen
      | o => o }
theorem laidWorld_met (os : Os) (args : Array Value) : laidMetH Tryz.prog [("errors.errorType", Rows.laid_errors_errorType)] ((laidWorld os).forCall (fun _ _ => 0) ⟨#[], args, []⟩).memory :=
  laidMetH_of_parts (laidMet_nil _ _) (by kernel_rfl)
end Go.Proofs.YtmoilbakmlekbaaGreatDoor

