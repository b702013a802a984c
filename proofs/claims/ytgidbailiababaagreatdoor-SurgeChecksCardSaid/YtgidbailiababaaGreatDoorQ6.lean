/- Merged texts, part 6. -/
import Derived.Test.YtgidbailiababaaGreatDoorQ5
import Derived.Test.YtgidbailiababaaGreatDoorProg
import Derived.Test.YtgidbailiababaaGreatDoorRows
import Derived.ChangeSame
import Derived.ChangeVars
import Derived.ChangeArms
import Derived.JoinedOf
import Derived.RowKit
import Derived.FnData
import Derived.LaidLaws
import Derived.LaidHandle
import Derived.Stop.Joined
set_option linter.all false
/- part Sx2 -/
namespace Go.Proofs.YtgidbailiababaaGreatDoor
open Go Bx
set_option maxHeartbeats 1000000 in
/-- barrage/surge.below -/
theorem c_below {f1 f2 : Int} {va vb : Value} {a b : List Int} {w0 : World} (ha : Sl w0 1 RInt va a) (hb : Sl w0 1 RInt vb b) (hl : a.length = b.length) : CV Tryz.prog 126 #[.agg [.int .i64 f1, va].toArray, .agg [.int .i64 f2, vb].toArray] w0 (.bool (belowB a b)) := by
 obtain ⟨aa, ca, rfl, hacap, hamx, -⟩ := id ha
 obtain ⟨ab, cb, rfl, -⟩ := id hb
 refine enter Tryz.func126 rfl Tryz.ntmps126 rfl ?_
 have hS := St.start w0
 refine seq ?_
 refine region ?_
 refine sbox hS rfl rfl ?_; clear hS; intro b2 w hS
 refine sbox hS rfl rfl ?_; clear hS; intro b3 w hS
 refine sv (yAsg rfl) ?_
 refine nil ?_
 show Code.wp _ _ _ _ _
 refine seq ?_
 refine seq ?_
 refine region ?_
 refine sv (fa41_1 rfl) ?_
 refine sv (yLdB rfl Tryz.isAgg39 (hS.at _) rfl) ?_
 refine sv (yLen rfl Tryz.underlying39) ?_
 refine sv (yMove rfl) ?_
 refine nil ?_
 show Code.wp _ _ _ _ _
 refine block ?_
 refine loop (fun f w zz => ∃ (k : Nat), f 3 = .pointer (some ⟨b3, 0, none⟩) ∧ f 8 = .slice aa a.length ca ∧ f 9 = .int .i64 (a.length : Int) ∧ f 10 = .int .i64 (k : Int) ∧ StX [] w0 w [blk b3 [.int .i64 f2, .slice ab b.length cb] 41, blk b2 [.int .i64 f1, .slice aa a.length ca] 41] ∧ (k ≤ a.length) ∧ (∀ i, i < k → a.getD i 0 ≤ b.getD i 0) ∧ zz = a.length - k) _ ⟨_, rfl, 0, rfl, rfl, rfl, rfl, hS, (Nat.zero_le _), (fun i hi => absurd hi (Nat.not_lt_zero _)), rfl⟩ ?_
 clear hS
 rintro f w _ ⟨k, h3, h8, h9, h10, hS, hk, hA, rfl⟩
 refine seq ?_
 refine region ?_
 refine sv (yLss h10 h9) ?_
 refine nil ?_
 show Code.wp _ _ _ _ _
 refine seq ?_
 refine cond rfl (fun c11 => ?_) (fun c11 => ?_)
 ·
  simp only [BS, ne_eq] at c11
  have hkl : k < a.length := by omega
  obtain ⟨bx, ox, cx, hax, hlx, hcx, hRx, -⟩ := sl_at ha (show a[k]? = some (a.getD k 0) by simp [hkl])
  obtain ⟨rfl, -⟩ := hRx
  obtain ⟨by0, oy, cy, hay, hly, hcy, hRy, -⟩ := sl_at hb (show b[k]? = some (b.getD k 0) by simp [show k < b.length by omega])
  obtain ⟨rfl, -⟩ := hRy
  refine skip ?_
  show Code.wp _ _ _ _ _
  refine seq ?_
  refine block ?_
  refine seq ?_
  refine region ?_
  refine sv (yMove h10) ?_
  refine sv (yIxa h8 hax h10 Tryz.runUnderlying39 Tryz.sizeOf3 (by omega) (by omega)) ?_
  refine sv (yLd rfl Tryz.isAgg3 (hcx.ext hS.ext).one) ?_
  refine sv (yAsg rfl) ?_
  refine sv (yAsg rfl) ?_
  refine nil ?_
  show Code.wp _ _ _ _ _
  refine seq ?_
  refine region ?_
  refine sv (yMove rfl) ?_
  refine sv (fa41_1 h3) ?_
  refine sv (yLdB rfl Tryz.isAgg39 (hS.at _) rfl) ?_
  refine sv (yMove rfl) ?_
  refine sv (yIxa rfl hay rfl Tryz.runUnderlying39 Tryz.sizeOf3 (by omega) (by omega)) ?_
  refine sv (yLd rfl Tryz.isAgg3 (hcy.ext hS.ext).one) ?_
  refine sv (yGtr rfl rfl) ?_
  refine nil ?_
  show Code.wp _ _ _ _ _
  refine cond rfl (fun c21 => ?_) (fun c21 => ?_)
  ·
   simp only [BS, ne_eq] at c21
   refine seq ?_
   refine region ?_
   refine sv (yAsg rfl) ?_
   refine nil ?_
   show Code.wp _ _ _ _ _
   refine wp_ret (blockR (thenR (thenR (blockR (thenR ?_)))))
   exact retV (res1 rfl (congrArg Value.bool (show false = belowB a b from ((Bool.eq_false_iff).2 (fun hh => by have := belowB_iff.1 hh k hkl; omega)).symm))) hS.ext
  ·
   simp only [BS, ne_eq] at c21
   refine skip ?_
   show Code.wp _ _ _ _ _
   refine region ?_
   refine sv (yAdd h10 rfl ⟨by omega, by omega⟩) ?_
   refine sv (yMove rfl) ?_
   refine nil ?_
   exact ⟨_, _, rfl, ⟨k + 1, h3, h8, h9, rfl, hS, (by omega), (fun i hi => by by_cases e : i = k; subst e; omega; exact hA i (by omega)), rfl⟩, by omega⟩
 ·
  simp only [BS, ne_eq] at c11
  obtain rfl : k = a.length := by omega
  refine exit ?_
  show Code.wp _ _ _ _ _
  refine seq ?_
  refine region ?_
  refine sv (yAsg rfl) ?_
  refine nil ?_
  show Code.wp _ _ _ _ _
  refine wp_ret ?_
  exact retV (res1 rfl (congrArg Value.bool (show true = belowB a b from (belowB_iff.2 hA).symm))) hS.ext
set_option maxHeartbeats 1000000 in
/-- slices.Equal   int,int  -/
theorem c_EqualI {va vb : Value} {a b : List Int} {w0 : World} (ha : Sl w0 1 RInt va a) (hb : Sl w0 1 RInt vb b) : CV Tryz.prog 128 #[va, vb] w0 (.bool (decide (a = b))) := by
 obtain ⟨aa, ca, rfl, hacap, hamx, -⟩ := id ha
 obtain ⟨ab, cb, rfl, -⟩ := id hb
 refine enter Tryz.func128 rfl Tryz.ntmps128 rfl ?_
 have hS := St.start w0
 refine seq ?_
 refine region ?_
 refine sv (yAsg rfl) ?_
 refine nil ?_
 show Code.wp _ _ _ _ _
 refine seq ?_
 refine seq ?_
 refine region ?_
 refine sv (yMove rfl) ?_
 refine sv (yLen rfl Tryz.underlying39) ?_
 refine sv (yMove rfl) ?_
 refine sv (yLen rfl Tryz.underlying39) ?_
 refine sv (yNeq rfl rfl) ?_
 refine nil ?_
 show Code.wp _ _ _ _ _
 refine cond rfl (fun c10 => ?_) (fun c10 => ?_)
 ·
  simp only [BS, ne_eq] at c10
  refine seq ?_
  refine region ?_
  refine sv (yAsg rfl) ?_
  refine nil ?_
  show Code.wp _ _ _ _ _
  refine wp_ret (thenR ?_)
  exact retV (res1 rfl (congrArg Value.bool (show false = decide (a = b) from (decide_eq_false (fun e => by rw [e] at c10; exact c10 rfl)).symm))) hS.ext
 ·
  simp only [BS, ne_eq] at c10
  have hl : a.length = b.length := by omega
  refine skip ?_
  show Code.wp _ _ _ _ _
  refine seq ?_
  refine seq ?_
  refine region ?_
  refine sv (yMove rfl) ?_
  refine sv (yLen rfl Tryz.underlying39) ?_
  refine sv (yMove rfl) ?_
  refine nil ?_
  show Code.wp _ _ _ _ _
  refine block ?_
  refine loop (fun f w zz => ∃ (k : Nat), f 0 = .slice aa a.length ca ∧ f 1 = .slice ab b.length cb ∧ f 12 = .int .i64 (a.length : Int) ∧ f 13 = .int .i64 (k : Int) ∧ StX [] w0 w [] ∧ (k ≤ a.length) ∧ (∀ i, i < k → a[i]? = b[i]?) ∧ zz = a.length - k) _ ⟨_, rfl, 0, rfl, rfl, rfl, rfl, hS, (Nat.zero_le _), (fun i hi => absurd hi (Nat.not_lt_zero _)), rfl⟩ ?_
  clear hS
  rintro f w _ ⟨k, h0, h1, h12, h13, hS, hk, hA, rfl⟩
  refine seq ?_
  refine region ?_
  refine sv (yLss h13 h12) ?_
  refine nil ?_
  show Code.wp _ _ _ _ _
  refine seq ?_
  refine cond rfl (fun c14 => ?_) (fun c14 => ?_)
  ·
   simp only [BS, ne_eq] at c14
   have hkl : k < a.length := by omega
   obtain ⟨bx, ox, cx, hax, hlx, hcx, hRx, -⟩ := sl_at ha (show a[k]? = some (a.getD k 0) by simp [hkl])
   obtain ⟨rfl, -⟩ := hRx
   obtain ⟨by0, oy, cy, hay, hly, hcy, hRy, -⟩ := sl_at hb (show b[k]? = some (b.getD k 0) by simp [show k < b.length by omega])
   obtain ⟨rfl, -⟩ := hRy
   refine skip ?_
   show Code.wp _ _ _ _ _
   refine seq ?_
   refine block ?_
   refine seq ?_
   refine region ?_
   refine sv (yMove h13) ?_
   refine sv (yAsg rfl) ?_
   refine nil ?_
   show Code.wp _ _ _ _ _
   refine seq ?_
   refine region_draw mixed (by kernel_rfl) hS ?_
   refine qv (fun w hS => (yMove h0)) ?_
   refine qv (fun w hS => (yMove rfl)) ?_
   refine qv (fun w hS => (yIxa rfl hax rfl Tryz.runUnderlying39 Tryz.sizeOf3 (by omega) (by omega))) ?_
   refine qv (fun w hS => (yLd rfl Tryz.isAgg3 (hcx.ext hS.ext).one)) ?_
   refine qv (fun w hS => (yMove h1)) ?_
   refine qv (fun w hS => (yMove rfl)) ?_
   refine qv (fun w hS => (yIxa rfl hay rfl Tryz.runUnderlying39 Tryz.sizeOf3 (by omega) (by omega))) ?_
   refine qv (fun w hS => (yLd rfl Tryz.isAgg3 (hcy.ext hS.ext).one)) ?_
   refine qv (fun w hS => (yNeq rfl rfl)) ?_
   clear hS; refine qnil (fun w hS => ?_)
   show Code.wp _ _ _ _ _
   refine cond rfl (fun c24 => ?_) (fun c24 => ?_)
   ·
    simp only [BS, ne_eq] at c24
    refine seq ?_
    refine region ?_
    refine sv (yAsg rfl) ?_
    refine nil ?_
    show Code.wp _ _ _ _ _
    refine wp_ret (blockR (thenR (thenR (blockR (thenR ?_)))))
    exact retV (res1 rfl (congrArg Value.bool (show false = decide (a = b) from (decide_eq_false (fun e => by rw [e] at c24; exact c24 rfl)).symm))) hS.ext
   ·
    simp only [BS, ne_eq] at c24
    refine skip ?_
    show Code.wp _ _ _ _ _
    refine region ?_
    refine sv (yAdd h13 rfl ⟨by omega, by omega⟩) ?_
    refine sv (yMove rfl) ?_
    refine nil ?_
    exact ⟨_, _, rfl, ⟨k + 1, h0, h1, h12, rfl, hS, (by omega), (fun i hi => by
     by_cases e : i = k
     ·
      subst e
      rw [List.getElem?_eq_getElem hkl, List.getElem?_eq_getElem (show i < b.length by omega)]
      have e1 : a.getD i 0 = a[i] := by simp [hkl]
      have e2 : b.getD i 0 = b[i] := by simp [show i < b.length by omega]
      congr 1; omega
     ·
      exact hA i (by omega)), rfl⟩, by omega⟩
  ·
   simp only [BS, ne_eq] at c14
   obtain rfl : k = a.length := by omega
   refine exit ?_
   show Code.wp _ _ _ _ _
   refine seq ?_
   refine region ?_
   refine sv (yAsg rfl) ?_
   refine nil ?_
   show Code.wp _ _ _ _ _
   refine wp_ret ?_
   exact retV (res1 rfl (congrArg Value.bool (show true = decide (a = b) from (decide_eq_true (eq_of_get hl hA)).symm))) hS.ext
set_option maxHeartbeats 2000000 in
/-- (*barrage/surge.known).possible closure 1 -/
theorem c_clo1 {frm : Int} {x bb : Bo} {m l h m2 l2 h2 : Value} {b5 : Nat} {w0 : World} (hb5 : w0.heap[b5]? = some (.cells (bxC frm bb.mem m2 l2 h2).toArray 115 (0, 0))) (hml : x.mem.length = bb.mem.length) (hm4 : bb.mem.length ≤ 4) (hhx : Sl w0 1 RInt h (highB x)) (hhb : Sl w0 1 RInt h2 (highB bb)) (hln : (highB x).length = (highB bb).length) : CV Tryz.prog 125 #[.agg (bxC frm x.mem m l h).toArray, .pointer (some ⟨b5, 0, none⟩)] w0 (.bool ((decide (x.mem ≠ bb.mem) && belowB (highB bb) (highB x)) && !belowB (highB x) (highB bb))) := by
 refine enter Tryz.func125 rfl Tryz.ntmps125 rfl ?_
 have hS := St.start w0
 refine seq ?_
 refine region ?_
 refine sbox hS rfl rfl ?_; clear hS; intro b2 w hS
 refine sv (yAsg rfl) ?_
 refine nil ?_
 show Code.wp _ _ _ _ _
 refine seq ?_
 refine region ?_
 refine sv (fa115_0 rfl) ?_
 refine sv (yLdBA rfl Tryz.isAgg113 Tryz.sizeOf113 (hS.at _) rfl rfl) ?_
 refine sv (fa115_0 rfl) ?_
 refine sv (yLdBA rfl Tryz.isAgg113 Tryz.sizeOf113 (hS.ext.get hb5) rfl rfl) ?_
 refine sv (neCh rfl rfl hml hm4) ?_
 refine sv (yMove rfl) ?_
 refine sg rfl rfl rfl (fun g => (fa115_1 rfl)) (fun v10 g10 => ?_)
 refine sg rfl rfl rfl (fun g => (fa43_2 (g10.1 g))) (fun v11 g11 => ?_)
 refine sg rfl rfl rfl (fun g => (yLdBA (g11.1 g) Tryz.isAgg41 Tryz.sizeOf41 (hS.ext.get hb5) rfl rfl)) (fun v12 g12 => ?_)
 refine sg rfl rfl rfl (fun g => (fa115_1 rfl)) (fun v13 g13 => ?_)
 refine sg rfl rfl rfl (fun g => (fa43_2 (g13.1 g))) (fun v14 g14 => ?_)
 refine sg rfl rfl rfl (fun g => (yLdBA (g14.1 g) Tryz.isAgg41 Tryz.sizeOf41 (hS.at _) rfl rfl)) (fun v15 g15 => ?_)
 refine sgc hS rfl rfl rfl Tryz.call126 (fun g => (.cons (g12.1 g) (.cons (g15.1 g) .nil))) (fun g => (c_below (hhb.ext RInt.stays hS.ext) (hhx.ext RInt.stays hS.ext) hln.symm)) ?_; clear hS; intro v16 w hS g16
 refine sv (yAnd rfl (fun hB => (g16.1 hB)) rfl) ?_
 refine sv (yMove rfl) ?_
 refine sg rfl rfl rfl (fun g => (fa115_1 rfl)) (fun v19 g19 => ?_)
 refine sg rfl rfl rfl (fun g => (fa43_2 (g19.1 g))) (fun v20 g20 => ?_)
 refine sg rfl rfl rfl (fun g => (yLdBA (g20.1 g) Tryz.isAgg41 Tryz.sizeOf41 (hS.at _) rfl rfl)) (fun v21 g21 => ?_)
 refine sg rfl rfl rfl (fun g => (fa115_1 rfl)) (fun v22 g22 => ?_)
 refine sg rfl rfl rfl (fun g => (fa43_2 (g22.1 g))) (fun v23 g23 => ?_)
 refine sg rfl rfl rfl (fun g => (yLdBA (g23.1 g) Tryz.isAgg41 Tryz.sizeOf41 (hS.ext.get hb5) rfl rfl)) (fun v24 g24 => ?_)
 refine sgc hS rfl rfl rfl Tryz.call126 (fun g => (.cons (g21.1 g) (.cons (g24.1 g) .nil))) (fun g => (c_below (hhx.ext RInt.stays hS.ext) (hhb.ext RInt.stays hS.ext) hln)) ?_; clear hS; intro v25 w hS g25
 refine sg rfl rfl rfl (fun g => (yNot (g25.1 g))) (fun v26 g26 => ?_)
 refine sv (yAnd rfl (fun hB => (g26.1 hB)) rfl) ?_
 refine sv (yAsg rfl) ?_
 refine nil ?_
 show Code.wp _ _ _ _ _
 refine wp_ret ?_
 exact retV (res1 rfl rfl) hS.ext
set_option maxHeartbeats 2000000 in
/-- (*barrage/surge.known).possible closure 2 -/
theorem c_clo2 {frm : Int} {x bb : Bo} {m l h m2 l2 h2 : Value} {b5 : Nat} {w0 : World} (hb5 : w0.heap[b5]? = some (.cells (bxC frm bb.mem m2 l2 h2).toArray 115 (0, 0))) (hml : x.mem.length = bb.mem.length) (hm4 : bb.mem.length ≤ 4) (hhx : Sl w0 1 RInt h (highB x)) (hhb : Sl w0 1 RInt h2 (highB bb)) (hln : (highB x).length = (highB bb).length) : CV Tryz.prog 127 #[.agg (bxC frm x.mem m l h).toArray, .pointer (some ⟨b5, 0, none⟩)] w0 (.bool (decide (highB x = highB bb))) := by
 refine enter Tryz.func127 rfl Tryz.ntmps127 rfl ?_
 have hS := St.start w0
 refine seq ?_
 refine region ?_
 refine sbox hS rfl rfl ?_; clear hS; intro b2 w hS
 refine sv (yAsg rfl) ?_
 refine nil ?_
 show Code.wp _ _ _ _ _
 refine seq ?_
 refine region ?_
 refine sv (fa115_1 rfl) ?_
 refine sv (fa43_2 rfl) ?_
 refine sv (fa41_1 rfl) ?_
 refine sv (yLdB rfl Tryz.isAgg39 (hS.at _) rfl) ?_
 refine sv (fa115_1 rfl) ?_
 refine sv (fa43_2 rfl) ?_
 refine sv (fa41_1 rfl) ?_
 refine sv (yLdB rfl Tryz.isAgg39 (hS.ext.get hb5) rfl) ?_
 refine scall Tryz.call128 (.cons rfl (.cons rfl .nil)) (c_EqualI (hhx.ext RInt.stays hS.ext) (hhb.ext RInt.stays hS.ext)) ?_
 rintro _ w ⟨rfl, hE⟩; replace hS := hS.step hE; clear hE
 refine sv (yAsg rfl) ?_
 refine nil ?_
 show Code.wp _ _ _ _ _
 refine wp_ret ?_
 exact retV (res1 rfl rfl) hS.ext
/-- slices.IndexFunc   barrage/surge.box,barrage/surge.box  -/
theorem c_IndexBox {frm : Int} {l : List Bo} {p : Bo → Bool} {v : Value} {g : Nat} {cl : List Value} {w0 : World} (hsl : Sl w0 9 (RBx frm) v l) (hcall : ∀ ys w, (callFunc g ys).run Tryz.prog w = .ok (.enter g ys) w) (hp : ∀ x cs w, x ∈ l → Ext w0 w → (RBx frm) w cs x → CV Tryz.prog g (.agg cs.toArray :: cl).toArray w (.bool (p x))) : CV Tryz.prog 169 #[v, .func (.func g) #[] cl.toArray] w0 (.int .i64 (idxF p l 0)) := by
 obtain ⟨a, cap, rfl, hcap, hmx, hel⟩ := hsl
 refine enter Tryz.func169 rfl Tryz.ntmps169 rfl ?_
 have hS := St.start w0
 refine seq ?_
 refine region ?_
 refine sv (yAsg rfl) ?_
 refine nil ?_
 show Code.wp _ _ _ _ _
 refine seq ?_
 refine seq ?_
 refine region ?_
 refine sv (yMove rfl) ?_
 refine sv (yLen rfl Tryz.underlying110) ?_
 refine sv (yMove rfl) ?_
 refine nil ?_
 show Code.wp _ _ _ _ _
 refine block ?_
 refine loop (fun f w zz => ∃ (k : Nat), f 0 = .slice a l.length cap ∧ f 1 = .func (.func g) #[] cl.toArray ∧ f 7 = .int .i64 (l.length : Int) ∧ f 8 = .int .i64 (k : Int) ∧ StX [] w0 w [] ∧ (k ≤ l.length) ∧ (idxF p l 0 = idxF p (l.drop k) k) ∧ zz = l.length - k) _ ⟨_, rfl, 0, rfl, rfl, rfl, rfl, hS, (Nat.zero_le _), (rfl), rfl⟩ ?_
 clear hS
 rintro f w _ ⟨k, h0, h1, h7, h8, hS, hk, hI, rfl⟩
 refine seq ?_
 refine region ?_
 refine sv (yLss h8 h7) ?_
 refine nil ?_
 show Code.wp _ _ _ _ _
 refine seq ?_
 refine cond rfl (fun c9 => ?_) (fun c9 => ?_)
 ·
  simp only [BS, ne_eq] at c9
  refine skip ?_
  show Code.wp _ _ _ _ _
  refine seq ?_
  refine block ?_
  refine seq ?_
  refine region ?_
  refine sv (yMove h8) ?_
  refine sv (yAsg rfl) ?_
  refine nil ?_
  show Code.wp _ _ _ _ _
  refine seq ?_
  refine region ?_
  obtain ⟨x, hx, hd⟩ := drop_of (l := l) (k := k) (by omega)
  obtain ⟨b, o, cs, ha, hlen, hcs, hR⟩ := hel k (by omega)
  obtain rfl : x = l[k] := (List.getElem?_eq_some_iff.1 hx).2.symm
  refine sv (yMove h1) ?_
  refine sv (yMove h0) ?_
  refine sv (yMove rfl) ?_
  refine sv (yIxa rfl ha rfl Tryz.runUnderlying110 Tryz.sizeOf115 (by omega) (by omega)) ?_
  refine sv (yLdA rfl Tryz.isAgg115 Tryz.sizeOf115 (hcs.ext hS.ext) hlen) ?_
  refine scallf rfl hcall (.cons rfl .nil) (hp _ _ _ (List.getElem_mem _) hS.ext (RBx.stays frm _ _ _ _ hS.ext hR)) ?_
  rintro _ w ⟨rfl, hE⟩; replace hS := hS.step hE; clear hE
  refine nil ?_
  show Code.wp _ _ _ _ _
  refine cond rfl (fun c16 => ?_) (fun c16 => ?_)
  ·
   refine seq ?_
   refine region ?_
   refine sv (yMove rfl) ?_
   refine sv (yAsg rfl) ?_
   refine nil ?_
   show Code.wp _ _ _ _ _
   refine wp_ret (blockR (thenR (thenR (blockR (thenR ?_)))))
   exact retV (res1 rfl (by rw [hI, hd, idxF, if_pos c16]; rfl)) hS.ext
  ·
   refine skip ?_
   show Code.wp _ _ _ _ _
   refine region ?_
   refine sv (yAdd h8 rfl ⟨by omega, by omega⟩) ?_
   refine sv (yMove rfl) ?_
   refine nil ?_
   exact ⟨_, _, rfl, ⟨k + 1, h0, h1, h7, rfl, hS, (by omega), (by rw [hI, hd, idxF, if_neg (by simp [c16])]; rfl), rfl⟩, by omega⟩
 ·
  simp only [BS, ne_eq] at c9
  refine exit ?_
  show Code.wp _ _ _ _ _
  refine seq ?_
  refine region ?_
  refine sv (yAsg rfl) ?_
  refine nil ?_
  show Code.wp _ _ _ _ _
  obtain rfl : k = l.length := by omega
  refine wp_ret ?_
  exact retV (res1 rfl (by rw [hI, List.drop_length]; rfl)) hS.ext
/-- slices.ContainsFunc   barrage/surge.box,barrage/surge.box  -/
theorem c_ContainsBox {frm : Int} {l : List Bo} {p : Bo → Bool} {v : Value} {g : Nat} {cl : List Value} {w0 : World} (hsl : Sl w0 9 (RBx frm) v l) (hcall : ∀ ys w, (callFunc g ys).run Tryz.prog w = .ok (.enter g ys) w) (hp : ∀ x cs w, x ∈ l → Ext w0 w → (RBx frm) w cs x → CV Tryz.prog g (.agg cs.toArray :: cl).toArray w (.bool (p x))) : CV Tryz.prog 124 #[v, .func (.func g) #[] cl.toArray] w0 (.bool (l.any p)) := by
 refine enter Tryz.func124 rfl Tryz.ntmps124 rfl ?_
 have hS := St.start w0
 refine seq ?_
 refine region ?_
 refine sv (yAsg rfl) ?_
 refine nil ?_
 show Code.wp _ _ _ _ _
 refine seq ?_
 refine region ?_
 refine sv (yMove rfl) ?_
 refine sv (yMove rfl) ?_
 refine scall Tryz.call169 (.cons rfl (.cons rfl .nil)) (c_IndexBox hsl hcall hp) ?_
 rintro _ w ⟨rfl, hE⟩; replace hS := hS.step hE; clear hE
 refine sv (yGeq rfl rfl) ?_
 refine sv (yAsg rfl) ?_
 refine nil ?_
 show Code.wp _ _ _ _ _
 refine wp_ret ?_
 exact retV (res1 rfl (by rw [← idxF_any p l 0 (Int.le_refl 0)]; rfl)) hS.ext
end Go.Proofs.YtgidbailiababaaGreatDoor

/- part S16 -/
namespace Bx
open Go Go.RowKit
section
variable {w : World} {frm : Int} {B : TypeId} {bs : List Bo} {ms ls hs : List Value}
theorem bx_at {n cap : Nat} {a : Option Addr} (hrow : w.ownsRow 0 B 9 (.slice a n cap) n (bxCs frm (bs.map Bo.mem) ms ls hs).flatten) {k : Nat} (hk : k < bs.length) (hn : bs.length = n) (h1 : ms.length = bs.length) (h2 : ls.length = bs.length) (h3 : hs.length = bs.length) (hb : ∀ b ∈ bs, b.mem.length ≤ 4 ∧ (∀ x ∈ b.mem, I64 x) ∧ (∀ x ∈ lowB b, I64 x) ∧ ∀ x ∈ highB b, I64 x)
    (i1 : ∀ it ∈ inI ms (bs.map Bo.mem), it.ok w) (i2 : ∀ it ∈ inI ls (bs.map lowB), it.ok w) (i3 : ∀ it ∈ inI hs (bs.map highB), it.ok w) :
    ∃ g am cm al cl ah ch, a = some ⟨g, 0, none⟩ ∧ Cells w g (0 + k * 9) (bxC frm (boxAt bs k).mem (.slice am (boxAt bs k).mem.length cm) (.slice al (lowB (boxAt bs k)).length cl) (.slice ah (highB (boxAt bs k)).length ch)) ∧ (ms.getD k undef = .slice am (boxAt bs k).mem.length cm ∧ ls.getD k undef = .slice al (lowB (boxAt bs k)).length cl ∧ hs.getD k undef = .slice ah (highB (boxAt bs k)).length ch) ∧
      Sl w 1 RInt (.slice am (boxAt bs k).mem.length cm) (boxAt bs k).mem ∧ Sl w 1 RInt (.slice al (lowB (boxAt bs k)).length cl) (lowB (boxAt bs k)) ∧ Sl w 1 RInt (.slice ah (highB (boxAt bs k)).length ch) (highB (boxAt bs k)) := by
  obtain ⟨g, rfl, hc⟩ := bx_cells hrow hk hn h1 h2 h3
  have hbk := hb _ (List.mem_of_getElem? (boxAt_get hk))
  have s1 := in_sl (f := Bo.mem) i1 h1 hk hbk.2.1
  have s2 := in_sl (f := lowB) i2 h2 hk hbk.2.2.1
  have s3 := in_sl (f := highB) i3 h3 hk hbk.2.2.2
  obtain ⟨am, cm, e1, -⟩ := id s1
  obtain ⟨al, cl, e2, -⟩ := id s2
  obtain ⟨ah, ch, e3, -⟩ := id s3
  rw [e1] at s1
  rw [e2] at s2
  rw [e3] at s3
  rw [e1, e2, e3, ← Nat.zero_add (k * 9)] at hc
  exact ⟨g, am, cm, al, cl, ah, ch, rfl, hc, ⟨e1, e2, e3⟩, s1, s2, s3⟩
theorem out_no {all : List Bo} {i : Nat} {b : Bo} (h : ((!(all.any fun x => (decide (x.mem ≠ b.mem) && belowB (highB b) (highB x)) && !belowB (highB x) (highB b))) && !((all.take i).any fun x => decide (highB x = highB b))) = true) : outBx all i b = false := by
  unfold outBx
  simp only [Bool.and_eq_true, Bool.not_eq_true'] at h
  rw [h.1, h.2]; rfl
theorem out_yes {all : List Bo} {i : Nat} {b : Bo} (h : ¬ ((!(all.any fun x => (decide (x.mem ≠ b.mem) && belowB (highB b) (highB x)) && !belowB (highB x) (highB b))) && !((all.take i).any fun x => decide (highB x = highB b))) = true) : outBx all i b = true := by
  cases hc : outBx all i b with
  | true => rfl
  | false =>
    exfalso; apply h
    unfold outBx at hc
    simp only [Bool.or_eq_false_iff] at hc
    rw [hc.1, hc.2]; rfl
theorem pos_el {E : TypeId} {i : Nat} (hi : i < (posK bs bs.length).length) (h3 : hs.length = bs.length) (hb : ∀ b ∈ bs, b.mem.length ≤ 4 ∧ (∀ x ∈ b.mem, I64 x) ∧ (∀ x ∈ lowB b, I64 x) ∧ ∀ x ∈ highB b, I64 x) : ∃ vi, ∀ (w2 : World) (u : Value), w2.ownsRow 0 E 2 u (posK bs bs.length).length (posC frm bs hs bs.length) → (∀ it ∈ inI hs (bs.map highB), it.ok w2) →
    (∃ g cap, u = .slice (some ⟨g, 0, none⟩) (posK bs bs.length).length cap ∧ Cells w2 g (0 + i * 2) [.int .i64 frm, vi]) ∧ Sl w2 1 RInt vi ((posK bs bs.length).getD i []) := by
  have hl : (posK bs bs.length).length = (keepK bs bs.length).length := by rw [posK_eq, List.length_map]
  have hk : (keepK bs bs.length)[i]? = some ((keepK bs bs.length).getD i 0) := by simp [List.getD, show i < (keepK bs bs.length).length by omega]
  have hj := keepK_lt (List.mem_of_getElem? hk)
  have he : (posK bs bs.length).getD i [] = highB (boxAt bs ((keepK bs bs.length).getD i 0)) := by
    rw [posK_eq, List.getD_eq_getElem?_getD, List.getElem?_map, hk]; rfl
  refine ⟨hs.getD ((keepK bs bs.length).getD i 0) undef, fun w2 u hrow h4 => ⟨?_, ?_⟩⟩
  · obtain ⟨g, cap, hu, -, -, hc⟩ := row_some hrow (by omega)
    refine ⟨g, cap, hu, fun q x hq => ?_⟩
    have hf : posC frm bs hs bs.length = ((keepK bs bs.length).map fun i => [Value.int .i64 frm, hs.getD i undef]).flatten := by unfold posC; rw [List.flatMap_def]
    have := hc _ _ (by rw [hf]; exact flatten_at (k := 2) (fun x hx => by obtain ⟨j, -, rfl⟩ := List.mem_map.1 hx; rfl) (by rw [List.getElem?_map, hk]; rfl) q x hq)
    rw [Nat.zero_add] at this
    rwa [Nat.zero_add]
  · rw [he]
    exact in_sl h4 h3 hj (hb _ (List.mem_of_getElem? (boxAt_get hj))).2.2.2
end
end Bx

/- part Sx3 -/
namespace Go.Proofs.YtgidbailiababaaGreatDoor
open Go Bx
set_option maxHeartbeats 4000000 in
/-- (*barrage/surge.known).possible -/
theorem c_possible {t : Sgt} {now : Int} {cv ov : Value} {ag ak ae aw ax : Option Addr} {cg ck ce cw cx bk mo : Nat} {os : List Span} {w0 w : World} {L9 : List Bx.Item} (h : RSgt w0 [.int .i64 t.table.mean, cv, .slice ag t.gauges.length cg, .int .i64 t.wrong, .int .i64 t.frm, .int .i64 t.ticks, .slice ak t.ctrs.length ck, .slice ae t.fcs.length ce, .int .i64 t.least, .int .i64 t.most, .int .i64 t.rate, .int .i64 t.quorum] t) (hok : SgOk t) (hnow : Bd now 0 200000) (hg : Glb w0) (hown : (os = [] ∧ mo = 0 ∧ ov = .slice none 0 0) ∨ (os = baseS t now ∧ mo = t.ticks.toNat)) (hS : StX [] w0 w (blk bk [.int .i64 t.table.mean, cv, .slice ag t.gauges.length cg, .int .i64 t.wrong, .int .i64 t.frm, .int .i64 t.ticks, .slice ak t.ctrs.length ck, .slice ae t.fcs.length ce, .int .i64 t.least, .int .i64 t.most, .int .i64 t.rate, .int .i64 t.quorum, .int .i64 now, .slice aw t.ticks.toNat cw, .slice ax t.ctrs.length cx, ov] 123 :: rowI (ov) 74 2 mo ((os).flatMap spanC) :: rowI (.slice aw t.ticks.toNat cw) 74 2 t.ticks.toNat ((tidesS t).flatMap spanC) :: rowI (.slice ax t.ctrs.length cx) 3 1 t.ctrs.length ((curS t now).flatMap Bx.encI) :: L9)) : CE Tryz.prog 67 #[.pointer (some ⟨bk, 0, none⟩)] w (fun u w' => ∃ ov' its, (∀ w2 : World, (∀ it ∈ its, it.ok w2) → Sl w2 2 RSer u ((posS t now).map (Ser.mk t.frm))) ∧ (∀ i, i < (posS t now).length → ∃ vi, ∀ w2 : World, (∀ it ∈ its, it.ok w2) → (∃ g cap, u = .slice (some ⟨g, 0, none⟩) (posS t now).length cap ∧ Cells w2 g (0 + i * 2) [.int .i64 t.frm, vi]) ∧ Sl w2 1 RInt vi ((posS t now).getD i [])) ∧ StX [] w0 w' (packI its :: blk bk [.int .i64 t.table.mean, cv, .slice ag t.gauges.length cg, .int .i64 t.wrong, .int .i64 t.frm, .int .i64 t.ticks, .slice ak t.ctrs.length ck, .slice ae t.fcs.length ce, .int .i64 t.least, .int .i64 t.most, .int .i64 t.rate, .int .i64 t.quorum, .int .i64 now, .slice aw t.ticks.toNat cw, .slice ax t.ctrs.length cx, ov'] 123 :: rowI (ov') 74 2 t.ticks.toNat ((baseS t now).flatMap spanC) :: rowI (.slice aw t.ticks.toNat cw) 74 2 t.ticks.toNat ((tidesS t).flatMap spanC) :: rowI (.slice ax t.ctrs.length cx) 3 1 t.ctrs.length ((curS t now).flatMap Bx.encI) :: L9)) := by
 obtain ⟨hT, hG, hw64, hf64, hk64, hC, hF, hl64, hm64, hr64, hq64⟩ := RSgt.parts h
 refine enter Tryz.func67 rfl Tryz.ntmps67 rfl ?_
 skip
 refine seq ?_
 refine region ?_
 refine sv (yAsg rfl) ?_
 refine nil ?_
 show Code.wp _ _ _ _ _
 refine seq ?_
 refine region ?_
 refine sv (yMove rfl) ?_
 refine scall Tryz.call64 (.cons rfl .nil) (c_boxes h hok hnow hg hown hS) ?_
 rintro bv w ⟨ov', ms, ls, hs, hl1, hl2, hl3, hM⟩; clear hS; have hS := hM; clear hM
 obtain ⟨av, cv2, rfl⟩ := row_shape (hS.row bv)
 have hbn : (boxS t now).length ≤ 625 := Nat.le_trans boxL_len (cho_bd hok)
 refine sv (yAsg rfl) ?_
 refine nil ?_
 show Code.wp _ _ _ _ _
 refine seq ?_
 refine seq ?_
 refine region ?_
 refine sv (yMove rfl) ?_
 refine sv (yLen rfl Tryz.underlying110) ?_
 refine sv (yMove rfl) ?_
 refine nil ?_
 show Code.wp _ _ _ _ _
 refine block ?_
 refine loop (fun f w zz => ∃ (k : Nat) (pv : Value), f 2 = pv ∧ f 3 = .slice av (boxS t now).length cv2 ∧ f 8 = .slice av (boxS t now).length cv2 ∧ f 9 = .int .i64 ((boxS t now).length : Int) ∧ f 10 = .int .i64 (k : Int) ∧ StX [] w0 w (rowI pv 41 2 (posK (boxS t now) k).length (posC t.frm (boxS t now) hs k) :: rowI (.slice av (boxS t now).length cv2) 115 9 (boxS t now).length (bxCs t.frm ((boxS t now).map Bo.mem) ms ls hs).flatten :: packI (inI ms ((boxS t now).map Bo.mem)) :: packI (inI ls ((boxS t now).map lowB)) :: packI (inI hs ((boxS t now).map highB)) :: blk bk [.int .i64 t.table.mean, cv, .slice ag t.gauges.length cg, .int .i64 t.wrong, .int .i64 t.frm, .int .i64 t.ticks, .slice ak t.ctrs.length ck, .slice ae t.fcs.length ce, .int .i64 t.least, .int .i64 t.most, .int .i64 t.rate, .int .i64 t.quorum, .int .i64 now, .slice aw t.ticks.toNat cw, .slice ax t.ctrs.length cx, ov'] 123 :: rowI (ov') 74 2 t.ticks.toNat ((baseS t now).flatMap spanC) :: rowI (.slice aw t.ticks.toNat cw) 74 2 t.ticks.toNat ((tidesS t).flatMap spanC) :: rowI (.slice ax t.ctrs.length cx) 3 1 t.ctrs.length ((curS t now).flatMap Bx.encI) :: L9) ∧ (k ≤ (boxS t now).length) ∧ zz = (boxS t now).length - k) _ ⟨_, rfl, 0, _, rfl, rfl, rfl, rfl, rfl, (hS.nilrow 41 2), (Nat.zero_le _), rfl⟩ ?_
 clear hS
 rintro f w _ ⟨k, pv, h2, h3, h8, h9, h10, hS, hk, rfl⟩
 refine seq ?_
 refine region ?_
 refine sv (yLss h10 h9) ?_
 refine nil ?_
 show Code.wp _ _ _ _ _
 refine seq ?_
 refine cond rfl (fun c11 => ?_) (fun c11 => ?_)
 ·
  simp only [BS, ne_eq] at c11
  have hkn : k < (boxS t now).length := by omega
  obtain ⟨gb, am, cm, al, cl, ah, ch, hgb, hcb, hes, -, -, hsh0⟩ := (bx_at (hS.row (.slice av (boxS t now).length cv2)) hkn rfl hl1 hl2 hl3 (fun b hb => box_ok hok hb) (hS.ok (packI (inI ms ((boxS t now).map Bo.mem))) (by simp)) (hS.ok (packI (inI ls ((boxS t now).map lowB))) (by simp)) (hS.ok (packI (inI hs ((boxS t now).map highB))) (by simp)))
  have hpl : (posK (boxS t now) k).length ≤ k := posK_le
  have hbk : (boxAt (boxS t now) k) ∈ boxS t now := List.mem_of_getElem? (boxAt_get hkn)
  have hB0 := (bx_sl (hS.row (.slice av (boxS t now).length cv2)) rfl hl1 hl2 hl3 (fun b hb => box_ok hok hb) (hS.ok (packI (inI ms ((boxS t now).map Bo.mem))) (by simp)) (hS.ok (packI (inI ls ((boxS t now).map lowB))) (by simp)) (hS.ok (packI (inI hs ((boxS t now).map highB))) (by simp)))
  obtain ⟨_, _, heq, hbc, hbm, -⟩ := id hB0
  cases heq
  refine skip ?_
  show Code.wp _ _ _ _ _
  refine seq ?_
  refine block ?_
  refine seq ?_
  refine region ?_
  refine sv (yMove h10) ?_
  refine sv (yIxa h8 hgb h10 Tryz.runUnderlying110 Tryz.sizeOf115 (by omega) (by omega)) ?_
  refine sv (yLdA rfl Tryz.isAgg115 Tryz.sizeOf115 hcb rfl) ?_
  refine salloc hS Tryz.zeroValue115 rfl ?_; clear hS; intro b5 w hS
  refine sv (yAsg rfl) ?_
  refine sst hS rfl rfl Tryz.sizeOf115 rfl rfl rfl rfl ?_; clear hS; intro w hS
  refine nil ?_
  show Code.wp _ _ _ _ _
  refine seq ?_
  refine region ?_
  have hB := (bx_sl (hS.row (.slice av (boxS t now).length cv2)) rfl hl1 hl2 hl3 (fun b hb => box_ok hok hb) (hS.ok (packI (inI ms ((boxS t now).map Bo.mem))) (by simp)) (hS.ok (packI (inI ls ((boxS t now).map lowB))) (by simp)) (hS.ok (packI (inI hs ((boxS t now).map highB))) (by simp)))
  have hsh := in_sl (f := highB) (bs := boxS t now) (k := k) (hS.ok (packI (inI hs ((boxS t now).map highB))) (by simp)) hl3 hkn (box_ok hok hbk).2.2.2
  rw [hes.2.2] at hsh
  refine sv (yMove h3) ?_
  refine sv (yFn (.cons rfl .nil)) ?_
  refine scall Tryz.call124 (.cons rfl (.cons rfl .nil)) (c_ContainsBox (p := fun x => (decide (x.mem ≠ (boxAt (boxS t now) k).mem) && belowB (highB (boxAt (boxS t now) k)) (highB x)) && !belowB (highB x) (highB (boxAt (boxS t now) k))) (g := 125) (cl := [.pointer (some ⟨b5, 0, none⟩)]) hB Tryz.call125 (fun x cs w2 hx he hR => by
   have hx := hx
   obtain ⟨m2, l2, h2, rfl, hx4, -, -, hhx⟩ := hR
   exact c_clo1 (he.get (hS.at b5)) ((box_len hx).2.trans (box_len hbk).2.symm) (box_ok hok hbk).1 hhx (hsh.ext RInt.stays he) ((high_len hx).1.trans (high_len hbk).1.symm))) ?_
  rintro _ w ⟨rfl, hE⟩; replace hS := hS.step hE; clear hE
  refine sv (yNot rfl) ?_
  have hB := (bx_sl (hS.row (.slice av (boxS t now).length cv2)) rfl hl1 hl2 hl3 (fun b hb => box_ok hok hb) (hS.ok (packI (inI ms ((boxS t now).map Bo.mem))) (by simp)) (hS.ok (packI (inI ls ((boxS t now).map lowB))) (by simp)) (hS.ok (packI (inI hs ((boxS t now).map highB))) (by simp)))
  have hsh := in_sl (f := highB) (bs := boxS t now) (k := k) (hS.ok (packI (inI hs ((boxS t now).map highB))) (by simp)) hl3 hkn (box_ok hok hbk).2.2.2
  rw [hes.2.2] at hsh
  refine sv (yMove rfl) ?_
  refine sg rfl rfl rfl (fun g => (yMove h3)) (fun v20 g20 => ?_)
  refine sg rfl rfl rfl (fun g => (yMove rfl)) (fun v21 g21 => ?_)
  refine sg rfl rfl rfl (fun g => (yTo (i := k) (g20.1 g) (g21.1 g) Tryz.underlying110 Tryz.sizeOf115 (by omega))) (fun v22 g22 => ?_)
  refine sg rfl rfl rfl (fun g => (yFn (.cons rfl .nil))) (fun v23 g23 => ?_)
  refine sgc hS rfl rfl rfl Tryz.call124 (fun g => (.cons (g22.1 g) (.cons (g23.1 g) .nil))) (fun g => (c_ContainsBox (p := fun x => decide (highB x = highB (boxAt (boxS t now) k))) (g := 127) (cl := [.pointer (some ⟨b5, 0, none⟩)]) (Sl.take hB (show k ≤ (boxS t now).length by omega)) Tryz.call127 (fun x cs w2 hx he hR => by
   have hx := List.mem_of_mem_take hx
   obtain ⟨m2, l2, h2, rfl, hx4, -, -, hhx⟩ := hR
   exact c_clo2 (he.get (hS.at b5)) ((box_len hx).2.trans (box_len hbk).2.symm) (box_ok hok hbk).1 hhx (hsh.ext RInt.stays he) ((high_len hx).1.trans (high_len hbk).1.symm)))) ?_; clear hS; intro v24 w hS g24
  refine sg rfl rfl rfl (fun g => (yNot (g24.1 g))) (fun v25 g25 => ?_)
  refine sv (yAnd rfl (fun hB => (g25.1 hB)) rfl) ?_
  refine nil ?_
  show Code.wp _ _ _ _ _
  refine cond rfl (fun c26 => ?_) (fun c26 => ?_)
  ·
   have hout := out_no c26
   refine region ?_
   refine sv (yMove h2) ?_
   refine sv (fa115_1 rfl) ?_
   refine sv (fa43_2 rfl) ?_
   refine sv (yLdBA rfl Tryz.isAgg41 Tryz.sizeOf41 (hS.at _) rfl rfl) ?_
   refine sbslice hS Tryz.underlying45 Tryz.sizeOf41 rfl Tryz.zeroValue41 rfl (.cons rfl rfl .nil) rfl ?_; clear hS; intro b31 w hS
   refine sapp (bytes := 32) (size := 2) (v := pv) (m := 1) hS rfl rfl Tryz.underlying45 ti41 rfl rfl rfl rfl (by decide) (blk_cells (hS.at _)) rfl rfl (by omega) (by omega) ?_; clear hS; intro v32 w hS
   refine sv (yAsg rfl) ?_
   refine nil ?_
   show Code.wp _ _ _ _ _
   refine region ?_
   refine sv (yAdd h10 rfl ⟨by omega, by omega⟩) ?_
   refine sv (yMove rfl) ?_
   refine nil ?_
   exact ⟨_, _, rfl, ⟨k + 1, _, rfl, h3, h8, h9, rfl, (by rw [posK_yes hout, posC_yes hout, hes.2.2]; exact hS.sub (.cons _ (.cons _ (List.Sublist.refl _)))), (by omega), rfl⟩, by omega⟩
  ·
   have hout := out_yes (by rw [c26]; decide)
   refine skip ?_
   show Code.wp _ _ _ _ _
   refine region ?_
   refine sv (yAdd h10 rfl ⟨by omega, by omega⟩) ?_
   refine sv (yMove rfl) ?_
   refine nil ?_
   exact ⟨_, _, rfl, ⟨k + 1, _, h2, h3, h8, h9, rfl, (by rw [posK_no hout, posC_no hout]; exact hS.sub (.cons _ (List.Sublist.refl _))), (by omega), rfl⟩, by omega⟩
 ·
  simp only [BS, ne_eq] at c11
  obtain rfl : k = (boxS t now).length := by omega
  refine exit ?_
  show Code.wp _ _ _ _ _
  refine seq ?_
  refine region ?_
  refine sv (yMove h2) ?_
  refine sv (yAsg rfl) ?_
  refine nil ?_
  show Code.wp _ _ _ _ _
  refine wp_ret ?_
  refine retQ (res1 rfl rfl) ?_
  exact ⟨ov', [rowI pv 41 2 (posK (boxS t now) (boxS t now).length).length (posC t.frm (boxS t now) hs (boxS t now).length), rowI (.slice av (boxS t now).length cv2) 115 9 (boxS t now).length (bxCs t.frm ((boxS t now).map Bo.mem) ms ls hs).flatten, packI (inI ms ((boxS t now).map Bo.mem)), packI (inI ls ((boxS t now).map lowB)), packI (inI hs ((boxS t now).map highB))], fun w2 hi => pos_sl (hi (rowI pv 41 2 (posK (boxS t now) (boxS t now).length).length (posC t.frm (boxS t now) hs (boxS t now).length)) (by simp)) rfl hf64 hl3 (fun b hb => box_ok hok hb) (hi (packI (inI hs ((boxS t now).map highB))) (by simp)), fun i hil => by
   obtain ⟨vi, hvi⟩ := pos_el (E := 41) (frm := t.frm) hil hl3 (fun b hb => box_ok hok hb)
   exact ⟨vi, fun w2 hi => hvi w2 _ (hi (rowI pv 41 2 (posK (boxS t now) (boxS t now).length).length (posC t.frm (boxS t now) hs (boxS t now).length)) (by simp)) (hi (packI (inI hs ((boxS t now).map highB))) (by simp))⟩, StX.pack (M := [rowI pv 41 2 (posK (boxS t now) (boxS t now).length).length (posC t.frm (boxS t now) hs (boxS t now).length), rowI (.slice av (boxS t now).length cv2) 115 9 (boxS t now).length (bxCs t.frm ((boxS t now).map Bo.mem) ms ls hs).flatten, packI (inI ms ((boxS t now).map Bo.mem)), packI (inI ls ((boxS t now).map lowB)), packI (inI hs ((boxS t now).map highB))]) hS⟩
end Go.Proofs.YtgidbailiababaaGreatDoor

/- part S17 -/
namespace Bx
open Go Go.RowKit
theorem its0 {w0 w : World} {L : List Item} (hS : StX [] w0 w L) : StX [] w0 w [packI []] := StX.pack (M := []) (hS.sub (List.nil_sublist _))
theorem its1 {w0 w : World} {x : Item} {L : List Item} (hS : StX [] w0 w (x :: L)) : StX [] w0 w [packI [x]] := StX.pack (M := [x]) (hS.sub (.cons_cons _ (List.nil_sublist _)))
theorem sl_none {α : Type} {w : World} {k : Nat} {R : World → List Value → α → Prop} : Sl w k R (.slice none 0 0) [] := ⟨none, 0, rfl, Nat.le_refl _, by decide, fun i hi => absurd hi (Nat.not_lt_zero _)⟩
/-- A box of the interface. -/
structure Bxs where
  mem : List Int
  low : Ser
  high : Ser
def RBxs (w : World) (cs : List Value) (b : Bxs) : Prop := ∃ m l h, cs = [m, .int .i64 b.low.frm, l, .int .i64 b.high.frm, h] ∧ I64 b.low.frm ∧ I64 b.high.frm ∧ Sl w 1 RInt m b.mem ∧ Sl w 1 RInt l b.low.vals ∧ Sl w 1 RInt h b.high.vals
theorem RBxs.stays : Stays RBxs := fun _ _ _ _ e ⟨m, l, h, h1, h2, h3, h4, h5, h6⟩ => ⟨m, l, h, h1, h2, h3, h4.ext RInt.stays e, h5.ext RInt.stays e, h6.ext RInt.stays e⟩
section
variable {w : World} {frm : Int} {bs : List Bo} {ms ls hs : List Value}
end
end Bx

/- part Sx4 -/
namespace Go.Proofs.YtgidbailiababaaGreatDoor
open Go Bx
set_option maxHeartbeats 1000000 in
/-- barrage/surge.Possible -/
theorem c_Possible {t : Sgt} {cv : Value} {ag ak ae : Option Addr} {cg ck ce : Nat} {now : Int} {w0 : World} (h : RSgt w0 [.int .i64 t.table.mean, cv, .slice ag t.gauges.length cg, .int .i64 t.wrong, .int .i64 t.frm, .int .i64 t.ticks, .slice ak t.ctrs.length ck, .slice ae t.fcs.length ce, .int .i64 t.least, .int .i64 t.most, .int .i64 t.rate, .int .i64 t.quorum] t) (hg : Glb w0) (hI : I64 now) : CE Tryz.prog 24 #[.agg [.int .i64 t.table.mean, cv, .slice ag t.gauges.length cg, .int .i64 t.wrong, .int .i64 t.frm, .int .i64 t.ticks, .slice ak t.ctrs.length ck, .slice ae t.fcs.length ce, .int .i64 t.least, .int .i64 t.most, .int .i64 t.rate, .int .i64 t.quorum].toArray, .int .i64 now] w0 (fun u w' => ∃ v its, u = .tuple #[v, .int .i64 (posR t now).2] ∧ (∀ w2 : World, (∀ it ∈ its, it.ok w2) → Sl w2 2 RSer v (((posR t now).1).map (Ser.mk t.frm))) ∧ St w0 w' [packI its]) := by
 obtain ⟨hT, hG, hw64, hf64, hk64, hC, hF, hl64, hm64, hr64, hq64⟩ := RSgt.parts h
 refine enter Tryz.func24 rfl Tryz.ntmps24 rfl ?_
 have hS := St.start w0
 refine seq ?_
 refine region ?_
 refine sbox hS rfl rfl ?_; clear hS; intro b2 w hS
 refine sv (yAsg rfl) ?_
 refine sv (yAsg rfl) ?_
 refine nil ?_
 show Code.wp _ _ _ _ _
 refine seq ?_
 refine region ?_
 refine sv (yLdBA rfl Tryz.isAgg29 Tryz.sizeOf29 (hS.at _) rfl rfl) ?_
 refine sv (yMove rfl) ?_
 refine scall Tryz.call63 (.cons rfl (.cons rfl .nil)) (c_with (h.ext hS.ext) hI) ?_
 rintro _ w (⟨he, rfl, hE⟩ | ⟨he, bk, aw, cw, ax, cx, rfl, hM⟩)
 ·
  replace hS := hS.step hE; clear hE
  refine sv (yMove rfl) ?_
  refine sv (yExt rfl rfl) ?_
  refine sv (yExt rfl rfl) ?_
  refine sv (yAsg rfl) ?_
  refine sv (yAsg rfl) ?_
  refine nil ?_
  show Code.wp _ _ _ _ _
  refine seq ?_
  refine seq ?_
  refine region ?_
  refine sv (yMove rfl) ?_
  refine sv (yNeq rfl rfl) ?_
  refine nil ?_
  show Code.wp _ _ _ _ _
  refine cond rfl (fun c15 => ?_) (fun c15 => ?_)
  ·
   simp only [BS, ne_eq] at c15
   refine seq ?_
   refine region ?_
   refine sv (yMove rfl) ?_
   refine sv (yAsg rfl) ?_
   refine sv (yAsg rfl) ?_
   refine nil ?_
   show Code.wp _ _ _ _ _
   refine wp_ret (thenR ?_)
   refine retQ (res2 rfl rfl rfl) ?_
   have hf : posR t now = ([], askE t now) := by unfold posR; rw [if_pos he]
   rw [hf]
   exact ⟨_, [], rfl, fun _ _ => sl_none, its0 hS⟩
  ·
   simp only [BS, ne_eq] at c15
   exact absurd c15 he
 ·
  replace hS := hS.call hM; clear hM
  replace hS : StX [] w0 w [blk bk [.int .i64 t.table.mean, cv, .slice ag t.gauges.length cg, .int .i64 t.wrong, .int .i64 t.frm, .int .i64 t.ticks, .slice ak t.ctrs.length ck, .slice ae t.fcs.length ce, .int .i64 t.least, .int .i64 t.most, .int .i64 t.rate, .int .i64 t.quorum, .int .i64 now, .slice aw t.ticks.toNat cw, .slice ax t.ctrs.length cx, .slice none 0 0] 123, rowI (.slice aw t.ticks.toNat cw) 74 2 t.ticks.toNat ((tidesS t).flatMap spanC), rowI (.slice ax t.ctrs.length cx) 3 1 t.ctrs.length ((curS t now).flatMap Bx.encI), blk b2 [.int .i64 t.table.mean, cv, .slice ag t.gauges.length cg, .int .i64 t.wrong, .int .i64 t.frm, .int .i64 t.ticks, .slice ak t.ctrs.length ck, .slice ae t.fcs.length ce, .int .i64 t.least, .int .i64 t.most, .int .i64 t.rate, .int .i64 t.quorum] 29] := hS
  obtain ⟨hok, hnow⟩ := askE_ok he
  have htk := hok.tk
  have hnc := hok.nc
  have hnf := hok.nf
  refine sv (yMove rfl) ?_
  refine sv (yExt rfl rfl) ?_
  refine sv (yExt rfl rfl) ?_
  refine sv (yAsg rfl) ?_
  refine sv (yAsg rfl) ?_
  refine nil ?_
  show Code.wp _ _ _ _ _
  refine seq ?_
  refine seq ?_
  refine region ?_
  refine sv (yMove rfl) ?_
  refine sv (yNeq rfl rfl) ?_
  refine nil ?_
  show Code.wp _ _ _ _ _
  refine cond rfl (fun c15 => ?_) (fun c15 => ?_)
  ·
   exact absurd c15 (by decide)
  ·
   refine skip ?_
   show Code.wp _ _ _ _ _
   refine seq ?_
   refine region ?_
   refine sv (yMove rfl) ?_
   refine scall Tryz.call67 (.cons rfl .nil) (c_possible h hok hnow hg (.inl ⟨rfl, rfl, rfl⟩) ((hS.nilrow 74 2).perm (List.Perm.swap _ _ _))) ?_
   rintro bv w ⟨ov', its, hit, -, hM⟩; clear hS; have hS := hM; clear hM
   refine sv (yAsg rfl) ?_
   refine sv (yAsg rfl) ?_
   refine nil ?_
   show Code.wp _ _ _ _ _
   refine wp_ret ?_
   refine retQ (res2 rfl rfl rfl) ?_
   have hf : posR t now = (posS t now, 0) := by unfold posR; rw [if_neg (fun k => k he)]
   rw [hf]
   exact ⟨_, its, rfl, fun w2 hi => hit w2 hi, hS.sub (.cons_cons _ (List.nil_sublist _))⟩
end Go.Proofs.YtgidbailiababaaGreatDoor

/- part S18 -/
namespace Bx
open Go Go.RowKit
theorem has_no {s : List Span} {v : List Int} {k : Nat} (hk : k < s.length) (h : v.getD k 0 < (spn s k).lo ∨ (spn s k).hi < v.getD k 0) : hasS s v = false := by
  cases hc : hasS s v with
  | false => rfl
  | true =>
    have := List.all_eq_true.1 hc k (List.mem_range.2 hk)
    simp only [Bool.not_eq_true', Bool.or_eq_false_iff, decide_eq_false_iff_not] at this
    omega
theorem has_yes {s : List Span} {v : List Int} (h : ∀ i, i < s.length → ¬ (v.getD i 0 < (spn s i).lo ∨ (spn s i).hi < v.getD i 0)) : hasS s v = true := by
  refine List.all_eq_true.2 fun i hi => ?_
  have := h i (List.mem_range.1 hi)
  simp only [Bool.not_eq_true', Bool.or_eq_false_iff, decide_eq_false_iff_not]
  omega
theorem any_succ {p : Nat → Bool} {m : Nat} : (List.range (m + 1)).any p = ((List.range m).any p || p m) := by rw [List.range_succ, List.any_append]; simp
def encB (b : Bool) : List Value := [.bool b]
section
variable {P : Program} {ops : Array Oper} {Q : Exit → Act → World → Prop} {n : Nat} {f : Fr} {w w0 : World} {S : List Nat} {rest : List Oper} {d : Nat} {ty : TypeId} {pos : String} {af : Array Edge}
/-- A guarded operation that is not wanted. -/
theorem ungn {op : Op} {j dj : Nat} {want : Bool} {v : Value} (hd : dstOf ops j = some dj) (hn : Nat.blt dj n = true) (hb : f dj = v) (hv : v ≠ .bool want) (h : wpL P ops Q n rest (upd f d undef) w) : wpL P ops Q n (⟨some d, op, ty, pos, af, some (j, want)⟩ :: rest) f w :=
  wpL_guard (G := False) (v := undef) hd hn ⟨False.elim, fun e => hv (hb.symm.trans e)⟩ (fun g => g.elim) fun v' c => by rw [c.2 id]; exact h
end
section
variable {t : Sgt} {now : Int} {v : List Int}
theorem right_len : (rightS t now v).length = t.ctrs.length := by simp [rightS]
theorem right_get {k : Nat} (h : k < t.ctrs.length) : (rightS t now v)[k]? = some (rightAt t now v k) := by simp [rightS, h]
theorem right_no {k : Nat} (h : ¬ 0 ≤ curOf t now k) : rightAt t now v k = false := by unfold rightAt; rw [decide_eq_false h]; rfl
theorem right_yes {k : Nat} (h : 0 ≤ curOf t now k) : rightAt t now v k = (List.range (fct t.fcs (curOf t now k).toNat).members.length).any fun m => hasS (tubeS t (fct t.fcs (curOf t now k).toNat) (mem (fct t.fcs (curOf t now k).toNat) m)) v := by unfold rightAt; rw [decide_eq_true h]; rfl
theorem cnt_snoc {l : List Bool} {k : Nat} {b : Bool} (h : l[k]? = some b) : (l.take (k + 1)).countP (fun b => b) = (l.take k).countP (fun b => b) + if b = true then 1 else 0 := by rw [take_snoc h, List.countP_append, List.countP_singleton]
theorem cnt_le {l : List Bool} {k : Nat} : (l.take k).countP (fun b => b) ≤ k := by
  have := List.countP_le_length (p := fun b : Bool => b) (l := l.take k)
  rw [List.length_take] at this; omega
end
end Bx

/- part Sx5 -/
namespace Go.Proofs.YtgidbailiababaaGreatDoor
open Go Bx
set_option maxHeartbeats 1000000 in
/-- (barrage/surge.spans).has -/
theorem c_has {s : List Span} {v : List Int} {sv vv : Value} {w0 : World} (hs : Sl w0 2 RSpan sv s) (hv : Sl w0 1 RInt vv v) (hl : v.length = s.length) : CV Tryz.prog 131 #[sv, vv] w0 (.bool (hasS s v)) := by
 obtain ⟨a, ca, rfl, hacap, hamx, -⟩ := id hs
 obtain ⟨av, cv, rfl, -⟩ := id hv
 refine enter Tryz.func131 rfl Tryz.ntmps131 rfl ?_
 have hS := St.start w0
 refine seq ?_
 refine region ?_
 refine sv (yAsg rfl) ?_
 refine nil ?_
 show Code.wp _ _ _ _ _
 refine seq ?_
 refine seq ?_
 refine region ?_
 refine sv (yMove rfl) ?_
 refine sv (yLen rfl Tryz.underlying121) ?_
 refine sv (yMove rfl) ?_
 refine nil ?_
 show Code.wp _ _ _ _ _
 refine block ?_
 refine loop (fun f w zz => ∃ (k : Nat), f 1 = .slice av v.length cv ∧ f 7 = .slice a s.length ca ∧ f 8 = .int .i64 (s.length : Int) ∧ f 9 = .int .i64 (k : Int) ∧ StX [] w0 w [] ∧ (k ≤ s.length) ∧ (∀ i, i < k → ¬ (v.getD i 0 < (spn s i).lo ∨ (spn s i).hi < v.getD i 0)) ∧ zz = s.length - k) _ ⟨_, rfl, 0, rfl, rfl, rfl, rfl, hS, (Nat.zero_le _), (fun i hi => absurd hi (Nat.not_lt_zero _)), rfl⟩ ?_
 clear hS
 rintro f w _ ⟨k, h1, h7, h8, h9, hS, hk, hA, rfl⟩
 refine seq ?_
 refine region ?_
 refine sv (yLss h9 h8) ?_
 refine nil ?_
 show Code.wp _ _ _ _ _
 refine seq ?_
 refine cond rfl (fun c10 => ?_) (fun c10 => ?_)
 ·
  simp only [BS, ne_eq] at c10
  have hkl : k < s.length := by omega
  obtain ⟨bx, ox, cx, hax, hlx, hcx, hRx, -⟩ := sl_at hs (spn_get hkl)
  obtain ⟨rfl, -⟩ := hRx
  obtain ⟨by0, oy, cy, hay, hly, hcy, hRy, -⟩ := sl_at hv (show v[k]? = some (v.getD k 0) by simp [show k < v.length by omega])
  obtain ⟨rfl, -⟩ := hRy
  refine skip ?_
  show Code.wp _ _ _ _ _
  refine seq ?_
  refine block ?_
  refine seq ?_
  refine region ?_
  refine sv (yMove h9) ?_
  refine sv (yIxa h7 hax h9 Tryz.runUnderlying121 Tryz.sizeOf74 (by omega) (by omega)) ?_
  refine sv (yLdA rfl Tryz.isAgg74 Tryz.sizeOf74 (hcx.ext hS.ext) rfl) ?_
  refine salloc hS Tryz.zeroValue74 rfl ?_; clear hS; intro b6 w hS
  refine sv (yAsg rfl) ?_
  refine sst hS rfl rfl Tryz.sizeOf74 rfl rfl rfl rfl ?_; clear hS; intro w hS
  refine nil ?_
  show Code.wp _ _ _ _ _
  refine seq ?_
  refine region_draw mixed (by kernel_rfl) hS ?_
  refine qv (fun w hS => (yMove h1)) ?_
  refine qv (fun w hS => (yMove rfl)) ?_
  refine qv (fun w hS => (yIxa rfl hay rfl Tryz.runUnderlying39 Tryz.sizeOf3 (by omega) (by omega))) ?_
  refine qv (fun w hS => (yLd rfl Tryz.isAgg3 (hcy.ext hS.ext).one)) ?_
  refine qv (fun w hS => (fa74_0 rfl)) ?_
  refine qv (fun w hS => (yLdB rfl Tryz.isAgg3 (hS.at _) rfl)) ?_
  refine qv (fun w hS => (yLss rfl rfl)) ?_
  refine qv (fun w hS => (yMove rfl)) ?_
  refine qg rfl rfl rfl (fun g w hS => (yMove h1)) (fun v22 g22 => ?_)
  refine qg rfl rfl rfl (fun g w hS => (yMove rfl)) (fun v23 g23 => ?_)
  refine qg rfl rfl rfl (fun g w hS => (yIxa (g22.1 g) hay (g23.1 g) Tryz.runUnderlying39 Tryz.sizeOf3 (by omega) (by omega))) (fun v24 g24 => ?_)
  refine qg rfl rfl rfl (fun g w hS => (yLd (g24.1 g) Tryz.isAgg3 (hcy.ext hS.ext).one)) (fun v25 g25 => ?_)
  refine qg rfl rfl rfl (fun g w hS => (fa74_1 rfl)) (fun v26 g26 => ?_)
  refine qg rfl rfl rfl (fun g w hS => (yLdB (g26.1 g) Tryz.isAgg3 (hS.at _) rfl)) (fun v27 g27 => ?_)
  refine qg rfl rfl rfl (fun g w hS => (yGtr (g25.1 g) (g27.1 g))) (fun v28 g28 => ?_)
  refine qv (fun w hS => (yOr rfl rfl (fun hB => (g28.1 hB)))) ?_
  clear hS; refine qnil (fun w hS => ?_)
  show Code.wp _ _ _ _ _
  refine cond rfl (fun c29 => ?_) (fun c29 => ?_)
  ·
   simp only [BS, ne_eq] at c29
   refine seq ?_
   refine region ?_
   refine sv (yAsg rfl) ?_
   refine nil ?_
   show Code.wp _ _ _ _ _
   refine wp_ret (blockR (thenR (thenR (blockR (thenR ?_)))))
   exact retV (res1 rfl (congrArg Value.bool (show false = hasS s v from (has_no hkl c29).symm))) hS.ext
  ·
   simp only [BS, ne_eq] at c29
   refine skip ?_
   show Code.wp _ _ _ _ _
   refine region ?_
   refine sv (yAdd h9 rfl ⟨by omega, by omega⟩) ?_
   refine sv (yMove rfl) ?_
   refine nil ?_
   exact ⟨_, _, rfl, ⟨k + 1, h1, h7, h8, rfl, (hS.sub (List.nil_sublist _)), (by omega), (fun i hi => by by_cases e : i = k; subst e; omega; exact hA i (by omega)), rfl⟩, by omega⟩
 ·
  simp only [BS, ne_eq] at c10
  obtain rfl : k = s.length := by omega
  refine exit ?_
  show Code.wp _ _ _ _ _
  refine seq ?_
  refine region ?_
  refine sv (yAsg rfl) ?_
  refine nil ?_
  show Code.wp _ _ _ _ _
  refine wp_ret ?_
  exact retV (res1 rfl (congrArg Value.bool (show true = hasS s v from (has_yes hA).symm))) hS.ext
end Go.Proofs.YtgidbailiababaaGreatDoor

/- part Sx6 -/
namespace Go.Proofs.YtgidbailiababaaGreatDoor
open Go Bx
set_option maxHeartbeats 4000000 in
/-- (*barrage/surge.known).right -/
theorem c_right {t : Sgt} {now : Int} {ov : Value} {bk : Nat} {T : TypeId} {w0 : World} (hk : RKn w0 bk T t now ov) (hok : SgOk t) {v : List Int} {vv : Value} (hg : Glb w0) (hv : Sl w0 1 RInt vv v) (hvl : v.length = t.ticks.toNat) : CE Tryz.prog 76 #[.pointer (some ⟨bk, 0, none⟩), vv] w0 (fun u w' => ∃ rv, u = .tuple #[rv, .int .i64 (((rightS t now v).countP (fun b => b) : Nat) : Int)] ∧ St w0 w' [rowI rv 4 1 t.ctrs.length ((rightS t now v).flatMap encB)]) := by
 obtain ⟨cv, ag, cg, ak, ck, ae, ce, aw, cw, ax, cx, hkb, hT, hG, hC, hF, hW, hX⟩ := id hk
 have hnc := hok.nc
 have hcl := curS_len t now
 refine enter Tryz.func76 rfl Tryz.ntmps76 rfl ?_
 have hS := St.start w0
 refine seq ?_
 refine region ?_
 refine sv (yAsg rfl) ?_
 refine sv (yAsg rfl) ?_
 refine nil ?_
 show Code.wp _ _ _ _ _
 refine seq ?_
 refine seq ?_
 refine region ?_
 refine sv (yMove rfl) ?_
 refine sv (yNil rfl) ?_
 refine sv (fa123_3 rfl) ?_
 refine sv (yLdB rfl Tryz.isAgg39 (hS.ext.get hkb) rfl) ?_
 refine sv (yLen rfl Tryz.underlying39) ?_
 refine sv (yMove rfl) ?_
 refine nil ?_
 show Code.wp _ _ _ _ _
 refine block ?_
 refine loop (fun f w zz => ∃ (k : Nat) (rv : Value), f 0 = .pointer (some ⟨bk, 0, none⟩) ∧ f 1 = vv ∧ f 4 = rv ∧ f 5 = .int .i64 ((((rightS t now v).take k).countP (fun b => b) : Nat) : Int) ∧ f 13 = .slice ax t.ctrs.length cx ∧ f 14 = .int .i64 (t.ctrs.length : Int) ∧ f 15 = .int .i64 (k : Int) ∧ StX [] w0 w [rowI (rv) 4 1 k (((rightS t now v).take k).flatMap encB)] ∧ (k ≤ t.ctrs.length) ∧ zz = t.ctrs.length - k) _ ⟨_, rfl, 0, _, rfl, rfl, rfl, rfl, rfl, rfl, rfl, (hS.nilrow 4 1), (Nat.zero_le _), rfl⟩ ?_
 clear hS
 rintro f w _ ⟨k, rv, h0, h1, h4, h5, h13, h14, h15, hS, hk2, rfl⟩
 refine seq ?_
 refine region ?_
 refine sv (yLss h15 h14) ?_
 refine nil ?_
 show Code.wp _ _ _ _ _
 refine seq ?_
 refine cond rfl (fun c16 => ?_) (fun c16 => ?_)
 ·
  simp only [BS, ne_eq] at c16
  have hkl : k < t.ctrs.length := by omega
  obtain ⟨bq, oq, cq, haq, hlq, hcq, hRq, -⟩ := sl_at hX (curS_get t now hkl)
  obtain ⟨rfl, -⟩ := hRq
  have hcnt : ((rightS t now v).take k).countP (fun b => b) ≤ k := cnt_le
  refine skip ?_
  show Code.wp _ _ _ _ _
  refine seq ?_
  refine block ?_
  refine seq ?_
  refine region ?_
  refine sv (yIxa h13 haq h15 Tryz.runUnderlying39 Tryz.sizeOf3 (by omega) (by omega)) ?_
  refine sv (yLd rfl Tryz.isAgg3 (hcq.ext hS.ext).one) ?_
  refine sv (yAsg rfl) ?_
  refine nil ?_
  show Code.wp _ _ _ _ _
  refine seq ?_
  refine region ?_
  refine sv (yAsg rfl) ?_
  refine nil ?_
  show Code.wp _ _ _ _ _
  refine seqJ (n := 61) (fun f w => ∃ (rb : Bool), f 0 = .pointer (some ⟨bk, 0, none⟩) ∧ f 1 = vv ∧ f 4 = rv ∧ f 5 = .int .i64 ((((rightS t now v).take k).countP (fun b => b) : Nat) : Int) ∧ f 13 = .slice ax t.ctrs.length cx ∧ f 14 = .int .i64 (t.ctrs.length : Int) ∧ f 15 = .int .i64 (k : Int) ∧ f 8 = .bool rb ∧ StX [] w0 w [rowI (rv) 4 1 k (((rightS t now v).take k).flatMap encB)] ∧ (rightAt t now v k = rb) ∧ True) ?_ ?_
  ·
   refine seq ?_
   refine region ?_
   refine sv (yMove rfl) ?_
   refine sv (yGeq rfl rfl) ?_
   refine nil ?_
   show Code.wp _ _ _ _ _
   refine cond rfl (fun c20 => ?_) (fun c20 => ?_)
   ·
    simp only [BS, ne_eq] at c20
    obtain ⟨hcf0, hfo⟩ := cur_fct hok (show 0 ≤ curOf t now k by omega)
    obtain ⟨bf, of, csf, haf, -, hcf, hRf, -⟩ := sl_at hF (fct_get hcf0)
    obtain ⟨mv, rfl, hf1, hf2, hf3, hMm⟩ := id hRf
    obtain ⟨am, cm, rfl, hmcap, hmmx, -⟩ := id hMm
    have hnm := hfo.nm
    refine seq ?_
    refine region ?_
    refine sv (yMove h0) ?_
    refine sv (yNil rfl) ?_
    refine sv (fa123_0 rfl) ?_
    refine sv (fa29_6 rfl) ?_
    refine sv (yLdB rfl Tryz.isAgg27 (hS.ext.get hkb) rfl) ?_
    refine sv (yMove rfl) ?_
    refine sv (yIxa rfl haf (rfl.trans (congrArg (Value.int .i64) (show curOf t now k = (((curOf t now k).toNat : Nat) : Int) by omega))) Tryz.runUnderlying27 Tryz.sizeOf61 (by omega) (by omega)) ?_
    refine sv (fa61_3 rfl) ?_
    refine sv (yLd rfl Tryz.isAgg59 ((hcf.ext hS.ext).at (j := 3) rfl)) ?_
    refine sv (yLen rfl Tryz.underlying59) ?_
    refine sv (yMove rfl) ?_
    refine nil ?_
    show Code.wp _ _ _ _ _
    refine block ?_
    refine loop (fun f w zz => ∃ (m : Nat) (can : Bool), f 0 = .pointer (some ⟨bk, 0, none⟩) ∧ f 1 = vv ∧ f 4 = rv ∧ f 5 = .int .i64 ((((rightS t now v).take k).countP (fun b => b) : Nat) : Int) ∧ f 13 = .slice ax t.ctrs.length cx ∧ f 14 = .int .i64 (t.ctrs.length : Int) ∧ f 15 = .int .i64 (k : Int) ∧ f 7 = .int .i64 (curOf t now k) ∧ f 8 = .bool can ∧ f 29 = .slice am (fct t.fcs (curOf t now k).toNat).members.length cm ∧ f 30 = .int .i64 ((fct t.fcs (curOf t now k).toNat).members.length : Int) ∧ f 31 = .int .i64 (m : Int) ∧ StX [] w0 w [rowI (rv) 4 1 k (((rightS t now v).take k).flatMap encB)] ∧ (m ≤ (fct t.fcs (curOf t now k).toNat).members.length) ∧ (can = (List.range m).any fun q => hasS (tubeS t (fct t.fcs (curOf t now k).toNat) (mem (fct t.fcs (curOf t now k).toNat) q)) v) ∧ zz = (fct t.fcs (curOf t now k).toNat).members.length - m) _ ⟨_, rfl, 0, false, h0, h1, h4, h5, h13, h14, h15, rfl, rfl, rfl, rfl, rfl, hS, (Nat.zero_le _), (rfl), rfl⟩ ?_
    clear hS
    rintro f w _ ⟨m, can, h0, h1, h4, h5, h13, h14, h15, h7, h8, h29, h30, h31, hS, hm, hcan, rfl⟩
    refine seq ?_
    refine region ?_
    refine sv (yLss h31 h30) ?_
    refine nil ?_
    show Code.wp _ _ _ _ _
    refine seq ?_
    refine cond rfl (fun c32 => ?_) (fun c32 => ?_)
    ·
     simp only [BS, ne_eq] at c32
     have hml : m < (fct t.fcs (curOf t now k).toNat).members.length := by omega
     refine skip ?_
     show Code.wp _ _ _ _ _
     refine seq ?_
     refine block ?_
     refine seq ?_
     refine region ?_
     refine sv (yMove h31) ?_
     refine sv (yAsg rfl) ?_
     refine nil ?_
     show Code.wp _ _ _ _ _
     rcases Bool.eq_false_or_eq_true can with hcc | hcc
     ·
      refine region ?_
      refine sv (yMove h8) ?_
      refine sv (yMove rfl) ?_
      refine ungn (v := .bool can) rfl rfl rfl (by rw [hcc]; simp) ?_
      refine ungn (v := .bool can) rfl rfl rfl (by rw [hcc]; simp) ?_
      refine ungn (v := .bool can) rfl rfl rfl (by rw [hcc]; simp) ?_
      refine ungn (v := .bool can) rfl rfl rfl (by rw [hcc]; simp) ?_
      refine ungn (v := .bool can) rfl rfl rfl (by rw [hcc]; simp) ?_
      refine ungn (v := .bool can) rfl rfl rfl (by rw [hcc]; simp) ?_
      refine ungn (v := .bool can) rfl rfl rfl (by rw [hcc]; simp) ?_
      refine ungn (v := .bool can) rfl rfl rfl (by rw [hcc]; simp) ?_
      refine ungn (v := .bool can) rfl rfl rfl (by rw [hcc]; simp) ?_
      refine ungn (v := .bool can) rfl rfl rfl (by rw [hcc]; simp) ?_
      refine ungn (v := .bool can) rfl rfl rfl (by rw [hcc]; simp) ?_
      refine ungn (v := .bool can) rfl rfl rfl (by rw [hcc]; simp) ?_
      refine ungn (v := .bool can) rfl rfl rfl (by rw [hcc]; simp) ?_
      refine sv (yPick (v := .bool can) (B := can) rfl (fun _ => by rw [hcc]; rfl) (fun h => absurd (hcc.symm.trans h) (by decide))) ?_
      refine sv (yAsg rfl) ?_
      refine nil ?_
      show Code.wp _ _ _ _ _
      refine region ?_
      refine sv (yAdd h31 rfl ⟨by omega, by omega⟩) ?_
      refine sv (yMove rfl) ?_
      refine nil ?_
      exact ⟨_, _, rfl, ⟨m + 1, can, h0, h1, h4, h5, h13, h14, h15, h7, rfl, h29, h30, rfl, hS, (by omega), (by rw [any_succ, ← hcan, hcc]; rfl), rfl⟩, by omega⟩
     ·
      refine region ?_
      refine sv (yMove h8) ?_
      refine sv (yMove rfl) ?_
      refine ungo rfl rfl (congrArg Value.bool hcc) ?_
      refine sv (yMove h0) ?_
      refine ungo rfl rfl (congrArg Value.bool hcc) ?_
      refine sv (yMove h0) ?_
      refine ungo rfl rfl (congrArg Value.bool hcc) ?_
      refine sv (yNil rfl) ?_
      refine ungo rfl rfl (congrArg Value.bool hcc) ?_
      refine sv (fa123_0 rfl) ?_
      refine ungo rfl rfl (congrArg Value.bool hcc) ?_
      refine sv (fa29_6 rfl) ?_
      refine ungo rfl rfl (congrArg Value.bool hcc) ?_
      refine sv (yLdB rfl Tryz.isAgg27 (hS.ext.get hkb) rfl) ?_
      refine ungo rfl rfl (congrArg Value.bool hcc) ?_
      refine sv (yMove h7) ?_
      refine ungo rfl rfl (congrArg Value.bool hcc) ?_
      refine sv (yIxa rfl haf (rfl.trans (congrArg (Value.int .i64) (show curOf t now k = (((curOf t now k).toNat : Nat) : Int) by omega))) Tryz.runUnderlying27 Tryz.sizeOf61 (by omega) (by omega)) ?_
      refine ungo rfl rfl (congrArg Value.bool hcc) ?_
      refine sv (yLdA rfl Tryz.isAgg61 Tryz.sizeOf61 (hcf.ext hS.ext) rfl) ?_
      refine ungo rfl rfl (congrArg Value.bool hcc) ?_
      refine sv (yMove rfl) ?_
      refine ungo rfl rfl (congrArg Value.bool hcc) ?_
      refine scall Tryz.call83 (.cons rfl (.cons rfl (.cons rfl .nil))) (c_tubeS (hk.ext hS.ext) hok (hg.ext hS.ext) hfo hml (hMm.ext RRow.stays hS.ext)) ?_
      rintro tv w hM; replace hS := hS.call1 hM; clear hM
      have htl := tubeS_lbd hok hfo hml
      refine ungo rfl rfl (congrArg Value.bool hcc) ?_
      refine sv (yMove h1) ?_
      refine ungo rfl rfl (congrArg Value.bool hcc) ?_
      refine scall Tryz.call131 (.cons rfl (.cons rfl .nil)) (c_has (sl_spans (hS.row tv) (tubeS_len ..) (lbd_i64 htl)) (hv.ext RInt.stays hS.ext) (hvl.trans (tubeS_len ..).symm)) ?_
      rintro _ w ⟨rfl, hE⟩; replace hS := hS.step hE; clear hE
      refine sv (yPick (v := .bool (hasS (tubeS t (fct t.fcs (curOf t now k).toNat) (mem (fct t.fcs (curOf t now k).toNat) m)) v)) (B := can) rfl (fun h => absurd (hcc.symm.trans h) (by decide)) (fun _ => rfl)) ?_
      refine sv (yAsg rfl) ?_
      refine nil ?_
      show Code.wp _ _ _ _ _
      refine region ?_
      refine sv (yAdd h31 rfl ⟨by omega, by omega⟩) ?_
      refine sv (yMove rfl) ?_
      refine nil ?_
      exact ⟨_, _, rfl, ⟨m + 1, _, h0, h1, h4, h5, h13, h14, h15, h7, rfl, h29, h30, rfl, (hS.sub (.cons _ (List.Sublist.refl _))), (by omega), (by rw [any_succ, ← hcan, hcc]; rfl), rfl⟩, by omega⟩
    ·
     simp only [BS, ne_eq] at c32
     obtain rfl : m = (fct t.fcs (curOf t now k).toNat).members.length := by omega
     refine exit ?_
     exact ⟨_, rfl, _, h0, h1, h4, h5, h13, h14, h15, h8, hS, ((by rw [right_yes (by omega), ← hcan])), trivial⟩
   ·
    simp only [BS, ne_eq] at c20
    refine skip ?_
    exact ⟨_, rfl, false, h0, h1, h4, h5, h13, h14, h15, rfl, hS, ((right_no (by omega))), trivial⟩
  ·
   clear hS; rintro f w ⟨rb, h0, h1, h4, h5, h13, h14, h15, h8, hS, hrb, -⟩
   refine seq ?_
   refine seq ?_
   refine region ?_
   refine sv (yMove h8) ?_
   refine nil ?_
   show Code.wp _ _ _ _ _
   refine cond rfl (fun c51 => ?_) (fun c51 => ?_)
   ·
    have hrt : rb = true := c51
    refine region ?_
    refine sv (yMove h5) ?_
    refine sv (yAdd rfl rfl ⟨by omega, by omega⟩) ?_
    refine sv (yAsg rfl) ?_
    refine nil ?_
    show Code.wp _ _ _ _ _
    refine region ?_
    refine sv (yMove h4) ?_
    refine sv (yMove h8) ?_
    refine sbslice hS Tryz.underlying78 Tryz.sizeOf4 rfl Tryz.zeroValue4 rfl (.cons rfl rfl .nil) rfl ?_; clear hS; intro b56 w hS
    refine sapp (bytes := 1) (size := 1) (v := rv) (m := 1) hS rfl rfl Tryz.underlying78 ti4 rfl rfl rfl rfl (by decide) (blk_cells (hS.at _)) rfl rfl (by omega) (by omega) ?_; clear hS; intro v57 w hS
    refine sv (yAsg rfl) ?_
    refine nil ?_
    show Code.wp _ _ _ _ _
    refine region ?_
    refine sv (yAdd h15 rfl ⟨by omega, by omega⟩) ?_
    refine sv (yMove rfl) ?_
    refine nil ?_
    exact ⟨_, _, rfl, ⟨k + 1, _, h0, h1, rfl, (rfl.trans (congrArg (Value.int .i64) (by rw [cnt_snoc (right_get hkl), hrb, hrt]; simp))), h13, h14, rfl, (by rw [take_snoc (right_get hkl), List.flatMap_append, hrb]; exact hS.sub (.cons _ (List.Sublist.refl _))), (by omega), rfl⟩, by omega⟩
   ·
    have hrt : rb = false := c51
    refine skip ?_
    show Code.wp _ _ _ _ _
    refine region ?_
    refine sv (yMove h4) ?_
    refine sv (yMove h8) ?_
    refine sbslice hS Tryz.underlying78 Tryz.sizeOf4 rfl Tryz.zeroValue4 rfl (.cons rfl rfl .nil) rfl ?_; clear hS; intro b56 w hS
    refine sapp (bytes := 1) (size := 1) (v := rv) (m := 1) hS rfl rfl Tryz.underlying78 ti4 rfl rfl rfl rfl (by decide) (blk_cells (hS.at _)) rfl rfl (by omega) (by omega) ?_; clear hS; intro v57 w hS
    refine sv (yAsg rfl) ?_
    refine nil ?_
    show Code.wp _ _ _ _ _
    refine region ?_
    refine sv (yAdd h15 rfl ⟨by omega, by omega⟩) ?_
    refine sv (yMove rfl) ?_
    refine nil ?_
    exact ⟨_, _, rfl, ⟨k + 1, _, h0, h1, rfl, (h5.trans (congrArg (Value.int .i64) (by rw [cnt_snoc (right_get hkl), hrb, hrt]; simp))), h13, h14, rfl, (by rw [take_snoc (right_get hkl), List.flatMap_append, hrb]; exact hS.sub (.cons _ (List.Sublist.refl _))), (by omega), rfl⟩, by omega⟩
 ·
  simp only [BS, ne_eq] at c16
  obtain rfl : k = t.ctrs.length := by omega
  rw [show (rightS t now v).take t.ctrs.length = rightS t now v from List.take_of_length_le (by rw [right_len]; exact Nat.le_refl _)] at hS h5
  refine exit ?_
  show Code.wp _ _ _ _ _
  refine seq ?_
  refine region ?_
  refine sv (yMove h4) ?_
  refine sv (yMove h5) ?_
  refine sv (yAsg rfl) ?_
  refine sv (yAsg rfl) ?_
  refine nil ?_
  show Code.wp _ _ _ _ _
  refine wp_ret ?_
  refine retQ (res2 rfl rfl rfl) ?_
  exact ⟨_, rfl, hS⟩
end Go.Proofs.YtgidbailiababaaGreatDoor

/- part S19 -/
namespace Bx
open Go Go.RowKit
theorem getD_mem {v : List Int} {k : Nat} (h : k < v.length) : v.getD k 0 ∈ v := by
  have : v[k]? = some (v.getD k 0) := by simp [h]
  exact List.mem_of_getElem? this
theorem sl_cellx {w : World} {a : Option Addr} {b o n c : Nat} {l : List Int} {i : Nat} {x : Int} (h : Sl w 1 RInt (.slice a n c) l) (hx : l[i]? = some x) (ha : a = some ⟨b, o, none⟩) : w.cell? ⟨b, o + i * 1, none⟩ = some (.int .i64 x) := by
  subst ha
  exact sl_cell h hx
section
variable {t : Sgt} {now : Int} {v : List Int}
theorem rate_yes {r : Int} (h : ∀ i, i < v.length - 1 → outB (v.getD (i + 1) 0 - v.getD i 0) (-r) r = false) : rateB r v = true := by
  refine List.all_eq_true.2 fun i hi => ?_
  rw [h i (List.mem_range.1 hi)]; rfl
theorem is_rate {k : Nat} (hk : k + 1 < v.length) (h : outB (v.getD (k + 1) 0 - v.getD k 0) (-t.rate) t.rate = true) : isS t now v = false := by
  have hr : rateB t.rate v = false := by
    cases hc : rateB t.rate v with
    | false => rfl
    | true =>
      have := List.all_eq_true.1 hc k (List.mem_range.2 (by omega))
      rw [h] at this; cases this
  unfold isS
  rw [hr]; rfl
theorem is_has (h : hasS (baseS t now) v = false) : isS t now v = false := by
  unfold isS
  rw [h, Bool.and_false]; rfl
theorem is_all (h1 : rateB t.rate v = true) (h2 : hasS (baseS t now) v = true) : isS t now v = decide (needS t now ≤ ((rightS t now v).countP fun b => b : Nat)) := by
  unfold isS
  rw [h1, h2]; rfl
end
end Bx

/- part Sx7 -/
namespace Go.Proofs.YtgidbailiababaaGreatDoor
open Go Bx
set_option maxHeartbeats 4000000 in
/-- (*barrage/surge.known).is -/
theorem c_is {t : Sgt} {now : Int} {cv ov : Value} {ag ak ae aw ax : Option Addr} {cg ck ce cw cx bk mo : Nat} {os : List Span} {w0 w : World} {L9 : List Bx.Item} (h : RSgt w0 [.int .i64 t.table.mean, cv, .slice ag t.gauges.length cg, .int .i64 t.wrong, .int .i64 t.frm, .int .i64 t.ticks, .slice ak t.ctrs.length ck, .slice ae t.fcs.length ce, .int .i64 t.least, .int .i64 t.most, .int .i64 t.rate, .int .i64 t.quorum] t) (hok : SgOk t) (hnow : Bd now 0 200000) (hg : Glb w0) (hown : (os = [] ∧ mo = 0 ∧ ov = .slice none 0 0) ∨ (os = baseS t now ∧ mo = t.ticks.toNat)) (hS : StX [] w0 w (blk bk [.int .i64 t.table.mean, cv, .slice ag t.gauges.length cg, .int .i64 t.wrong, .int .i64 t.frm, .int .i64 t.ticks, .slice ak t.ctrs.length ck, .slice ae t.fcs.length ce, .int .i64 t.least, .int .i64 t.most, .int .i64 t.rate, .int .i64 t.quorum, .int .i64 now, .slice aw t.ticks.toNat cw, .slice ax t.ctrs.length cx, ov] 123 :: rowI (ov) 74 2 mo ((os).flatMap spanC) :: rowI (.slice aw t.ticks.toNat cw) 74 2 t.ticks.toNat ((tidesS t).flatMap spanC) :: rowI (.slice ax t.ctrs.length cx) 3 1 t.ctrs.length ((curS t now).flatMap Bx.encI) :: L9)) {v : List Int} {vv : Value} (hvr : ∀ w2 : World, (∀ it ∈ L9, it.ok w2) → Ext w0 w2 → Sl w2 1 RInt vv v) (hvl : v.length = t.ticks.toNat) (hvb : ∀ x ∈ v, Bd x (-200000) 200000) : CE Tryz.prog 70 #[.pointer (some ⟨bk, 0, none⟩), vv] w (fun u w' => u = .bool (isS t now v) ∧ ∃ (ov' : Value) (os' : List Span) (mo' : Nat), ((os' = [] ∧ mo' = 0 ∧ ov' = .slice none 0 0) ∨ (os' = baseS t now ∧ mo' = t.ticks.toNat)) ∧ StX [] w0 w' (blk bk [.int .i64 t.table.mean, cv, .slice ag t.gauges.length cg, .int .i64 t.wrong, .int .i64 t.frm, .int .i64 t.ticks, .slice ak t.ctrs.length ck, .slice ae t.fcs.length ce, .int .i64 t.least, .int .i64 t.most, .int .i64 t.rate, .int .i64 t.quorum, .int .i64 now, .slice aw t.ticks.toNat cw, .slice ax t.ctrs.length cx, ov'] 123 :: rowI (ov') 74 2 mo' ((os').flatMap spanC) :: rowI (.slice aw t.ticks.toNat cw) 74 2 t.ticks.toNat ((tidesS t).flatMap spanC) :: rowI (.slice ax t.ctrs.length cx) 3 1 t.ctrs.length ((curS t now).flatMap Bx.encI) :: L9)) := by
 obtain ⟨hT, hG, hw64, hf64, hk64, hC, hF, hl64, hm64, hr64, hq64⟩ := RSgt.parts h
 have htk := hok.tk
 have hn4 := hok.nums4
 obtain ⟨av, cvv, rfl, hvc, hvm, -⟩ := hvr _ (fun it hi => hS.ok it ((List.mem_cons_of_mem _ (List.mem_cons_of_mem _ (List.mem_cons_of_mem _ (List.mem_cons_of_mem _ hi)))))) hS.ext
 refine enter Tryz.func70 rfl Tryz.ntmps70 rfl ?_
 skip
 refine seq ?_
 refine region ?_
 refine sv (yAsg rfl) ?_
 refine nil ?_
 show Code.wp _ _ _ _ _
 refine seq ?_
 refine seq ?_
 refine region ?_
 refine sv (yAsg rfl) ?_
 refine nil ?_
 show Code.wp _ _ _ _ _
 refine block ?_
 refine loop (fun f w zz => ∃ (k : Nat), f 0 = .pointer (some ⟨bk, 0, none⟩) ∧ f 1 = .slice av v.length cvv ∧ f 5 = .int .i64 ((k + 1 : Nat) : Int) ∧ StX [] w0 w (blk bk [.int .i64 t.table.mean, cv, .slice ag t.gauges.length cg, .int .i64 t.wrong, .int .i64 t.frm, .int .i64 t.ticks, .slice ak t.ctrs.length ck, .slice ae t.fcs.length ce, .int .i64 t.least, .int .i64 t.most, .int .i64 t.rate, .int .i64 t.quorum, .int .i64 now, .slice aw t.ticks.toNat cw, .slice ax t.ctrs.length cx, ov] 123 :: rowI (ov) 74 2 mo ((os).flatMap spanC) :: rowI (.slice aw t.ticks.toNat cw) 74 2 t.ticks.toNat ((tidesS t).flatMap spanC) :: rowI (.slice ax t.ctrs.length cx) 3 1 t.ctrs.length ((curS t now).flatMap Bx.encI) :: L9) ∧ (k + 1 ≤ v.length) ∧ (∀ i, i < k → outB (v.getD (i + 1) 0 - v.getD i 0) (-t.rate) t.rate = false) ∧ zz = v.length - k) _ ⟨_, rfl, 0, rfl, rfl, rfl, hS, (by omega), (fun i hi => absurd hi (Nat.not_lt_zero _)), rfl⟩ ?_
 clear hS
 rintro f w _ ⟨k, h0, h1, h5, hS, hk, hA, rfl⟩
 refine seq ?_
 refine seq ?_
 refine region ?_
 refine sv (yMove h5) ?_
 refine sv (yMove h1) ?_
 refine sv (yLen rfl Tryz.underlying39) ?_
 refine sv (yLss rfl rfl) ?_
 refine nil ?_
 show Code.wp _ _ _ _ _
 refine cond rfl (fun c11 => ?_) (fun c11 => ?_)
 ·
  simp only [BS, ne_eq] at c11
  have hkl : k + 1 < v.length := by omega
  have hvw := hvr _ (fun it hi => hS.ok it ((List.mem_cons_of_mem _ (List.mem_cons_of_mem _ (List.mem_cons_of_mem _ (List.mem_cons_of_mem _ hi)))))) hS.ext
  obtain ⟨b1, o1, c1, ha1, -, hc1, hR1, -⟩ := sl_at hvw (show v[k + 1]? = some (v.getD (k + 1) 0) by simp [hkl])
  obtain ⟨rfl, -⟩ := hR1
  obtain ⟨b0, o0, c0, ha0, -, hc0, hR0, -⟩ := sl_at hvw (show v[k]? = some (v.getD k 0) by simp [show k < v.length by omega])
  obtain ⟨rfl, -⟩ := hR0
  have hb1 := hvb _ (getD_mem hkl)
  have hb0 := hvb _ (getD_mem (show k < v.length by omega))
  refine skip ?_
  show Code.wp _ _ _ _ _
  refine seq ?_
  refine block ?_
  refine seq ?_
  refine region_mix (fun w => StX [] w0 w (blk bk [.int .i64 t.table.mean, cv, .slice ag t.gauges.length cg, .int .i64 t.wrong, .int .i64 t.frm, .int .i64 t.ticks, .slice ak t.ctrs.length ck, .slice ae t.fcs.length ce, .int .i64 t.least, .int .i64 t.most, .int .i64 t.rate, .int .i64 t.quorum, .int .i64 now, .slice aw t.ticks.toNat cw, .slice ax t.ctrs.length cx, ov] 123 :: rowI (ov) 74 2 mo ((os).flatMap spanC) :: rowI (.slice aw t.ticks.toNat cw) 74 2 t.ticks.toNat ((tidesS t).flatMap spanC) :: rowI (.slice ax t.ctrs.length cx) 3 1 t.ctrs.length ((curS t now).flatMap Bx.encI) :: L9)) 22 mixed hS ?_
  clear hS; intro w hS
  refine f_step 0 (by kernel_rfl) rfl (fun c a a' w h => by obtain ⟨_, v, hv, _⟩ := h; cases hv) hS (fun w hS => (yMove h1)) ?_
  refine f_step 1 (by kernel_rfl) rfl (fun c a a' w h => by obtain ⟨_, v, hv, _⟩ := h; cases hv) hS (fun w hS => (yMove h5)) ?_
  refine f_step 2 (by kernel_rfl) rfl (fun c a a' w h => by obtain ⟨_, v, hv, _⟩ := h; cases hv) hS (fun w hS => (yIxa rfl ha1 (rfl.trans (congrArg (Value.int .i64) (show ((k + 1 : Nat) : Int) = _ from rfl))) Tryz.runUnderlying39 Tryz.sizeOf3 (by omega) (by omega))) ?_
  refine f_step 3 (by kernel_rfl) rfl (fun c a a' w h => by obtain ⟨_, v, hv, _⟩ := h; cases hv) hS (fun w hS => (yLd rfl Tryz.isAgg3 ((sl_cellx (hvr _ (fun it hi => hS.ok it ((List.mem_cons_of_mem _ (List.mem_cons_of_mem _ (List.mem_cons_of_mem _ (List.mem_cons_of_mem _ hi)))))) hS.ext) (show v[k + 1]? = some (v.getD (k + 1) 0) by simp [hkl]) ha1)))) ?_
  refine f_step 4 (by kernel_rfl) rfl (fun c a a' w h => by obtain ⟨_, v, hv, _⟩ := h; cases hv) hS (fun w hS => (yMove h1)) ?_
  refine f_step 5 (by kernel_rfl) rfl (fun c a a' w h => by obtain ⟨_, v, hv, _⟩ := h; cases hv) hS (fun w hS => (yMove h5)) ?_
  refine f_step 6 (by kernel_rfl) rfl (fun c a a' w h => by obtain ⟨_, v, hv, _⟩ := h; cases hv) hS (fun w hS => (Y.to (ySub rfl rfl ⟨by omega, by omega⟩) (congrArg (Value.int .i64) (show ((k + 1 : Nat) : Int) - 1 = (k : Int) by omega)))) ?_
  refine f_step 7 (by kernel_rfl) rfl (fun c a a' w h => by obtain ⟨_, v, hv, _⟩ := h; cases hv) hS (fun w hS => (yIxa rfl ha0 rfl Tryz.runUnderlying39 Tryz.sizeOf3 (by omega) (by omega))) ?_
  refine f_step 8 (by kernel_rfl) rfl (fun c a a' w h => by obtain ⟨_, v, hv, _⟩ := h; cases hv) hS (fun w hS => (yLd rfl Tryz.isAgg3 ((sl_cellx (hvr _ (fun it hi => hS.ok it ((List.mem_cons_of_mem _ (List.mem_cons_of_mem _ (List.mem_cons_of_mem _ (List.mem_cons_of_mem _ hi)))))) hS.ext) (show v[k]? = some (v.getD k 0) by simp [show k < v.length by omega]) ha0)))) ?_
  refine f_step 9 (by kernel_rfl) rfl (fun c a a' w h => by obtain ⟨_, v, hv, _⟩ := h; cases hv) hS (fun w hS => (ySub rfl rfl ⟨by omega, by omega⟩)) ?_
  refine f_step 10 (by kernel_rfl) rfl (fun c a a' w h => by obtain ⟨_, v, hv, _⟩ := h; cases hv) hS (fun w hS => (yMove h0)) ?_
  refine f_step 11 (by kernel_rfl) rfl (fun c a a' w h => by obtain ⟨_, v, hv, _⟩ := h; cases hv) hS (fun w hS => (yNil rfl)) ?_
  refine f_step 12 (by kernel_rfl) rfl (fun c a a' w h => by obtain ⟨_, v, hv, _⟩ := h; cases hv) hS (fun w hS => (fa123_0 rfl)) ?_
  refine f_step 13 (by kernel_rfl) rfl (fun c a a' w h => by obtain ⟨_, v, hv, _⟩ := h; cases hv) hS (fun w hS => (fa29_9 rfl)) ?_
  refine f_step 14 (by kernel_rfl) rfl (fun c a a' w h => by obtain ⟨_, v, hv, _⟩ := h; cases hv) hS (fun w hS => (yLdB rfl Tryz.isAgg3 (hS.at bk) rfl)) ?_
  refine f_step 15 (by kernel_rfl) rfl (fun c a a' w h => by obtain ⟨_, v, hv, _⟩ := h; cases hv) hS (fun w hS => (yNeg rfl ⟨by omega, by omega⟩)) ?_
  refine f_step 16 (by kernel_rfl) rfl (fun c a a' w h => by obtain ⟨_, v, hv, _⟩ := h; cases hv) hS (fun w hS => (yMove h0)) ?_
  refine f_step 17 (by kernel_rfl) rfl (fun c a a' w h => by obtain ⟨_, v, hv, _⟩ := h; cases hv) hS (fun w hS => (yNil rfl)) ?_
  refine f_step 18 (by kernel_rfl) rfl (fun c a a' w h => by obtain ⟨_, v, hv, _⟩ := h; cases hv) hS (fun w hS => (fa123_0 rfl)) ?_
  refine f_step 19 (by kernel_rfl) rfl (fun c a a' w h => by obtain ⟨_, v, hv, _⟩ := h; cases hv) hS (fun w hS => (fa29_9 rfl)) ?_
  refine f_step 20 (by kernel_rfl) rfl (fun c a a' w h => by obtain ⟨_, v, hv, _⟩ := h; cases hv) hS (fun w hS => (yLdB rfl Tryz.isAgg3 (hS.at bk) rfl)) ?_
  show wpA _ _ _ _ _ _ _ _ _ _
  refine a_step (i := 21) (is := []) (by kernel_rfl) ⟨?_, trivial⟩
  refine ⟨_, rfl, ?_⟩
  refine scall Tryz.call53 (.cons rfl (.cons rfl (.cons rfl .nil))) c_outS ?_
  rintro _ w ⟨rfl, hE⟩; replace hS := hS.step hE; clear hE
  refine nil ?_
  refine ⟨fun _ => hS, ?_⟩
  show wpA _ _ _ _ _ _ _ _ _ _
  refine a_end (by kernel_rfl) ?_
  show Code.wp _ _ _ _ _
  refine cond rfl (fun c35 => ?_) (fun c35 => ?_)
  ·
   refine seq ?_
   refine region ?_
   refine sv (yAsg rfl) ?_
   refine nil ?_
   show Code.wp _ _ _ _ _
   refine wp_ret (blockR (thenR (thenR (blockR (thenR ?_)))))
   refine retQ (res1 rfl rfl) ?_
   exact ⟨by rw [is_rate hkl c35]; rfl, ov, os, mo, hown, hS⟩
  ·
   refine skip ?_
   show Code.wp _ _ _ _ _
   refine region ?_
   refine sv (yMove h5) ?_
   refine sv (yAdd rfl rfl ⟨by omega, by omega⟩) ?_
   refine sv (yAsg rfl) ?_
   refine nil ?_
   exact ⟨_, _, rfl, ⟨k + 1, h0, h1, rfl, hS, (by omega), (fun i hi => by
    by_cases e : i = k
    ·
     subst e; exact c35
    ·
     exact hA i (by omega)), rfl⟩, by omega⟩
 ·
  simp only [BS, ne_eq] at c11
  have hke : v.length = k + 1 := by omega
  have hrate := rate_yes (show ∀ i, i < v.length - 1 → _ from fun i hi => hA i (by omega))
  refine exit ?_
  show Code.wp _ _ _ _ _
  refine seq ?_
  refine seq ?_
  refine region ?_
  refine sv (yMove h0) ?_
  refine scall Tryz.call81 (.cons rfl .nil) (c_baseS h hok hnow hg hown hS) ?_
  rintro bv w ⟨ov', hM⟩; clear hS; have hS := hM; clear hM
  refine sv (yMove h1) ?_
  refine scall Tryz.call131 (.cons rfl (.cons rfl .nil)) (c_has (sl_spans (hS.row bv) (baseS_len ..) (lbd_i64 (baseS_lbd hok now))) (hvr _ (fun it hi => hS.ok it ((List.mem_cons_of_mem _ (List.mem_cons_of_mem _ (List.mem_cons_of_mem _ (List.mem_cons_of_mem _ (List.mem_cons_of_mem _ hi))))))) hS.ext) (hvl.trans (baseS_len ..).symm)) ?_
  rintro _ w ⟨rfl, hE⟩; replace hS := hS.step hE; clear hE
  refine sv (yNot rfl) ?_
  refine nil ?_
  show Code.wp _ _ _ _ _
  refine cond rfl (fun c40 => ?_) (fun c40 => ?_)
  ·
   have hhas : hasS (baseS t now) v = false := by cases hh : hasS (baseS t now) v with | false => rfl | true => rw [hh] at c40; cases c40
   refine seq ?_
   refine region ?_
   refine sv (yAsg rfl) ?_
   refine nil ?_
   show Code.wp _ _ _ _ _
   refine wp_ret (thenR ?_)
   refine retQ (res1 rfl rfl) ?_
   exact ⟨by rw [is_has hhas]; rfl, ov', baseS t now, _, .inr ⟨rfl, rfl⟩, hS.sub (.cons _ (List.Sublist.refl _))⟩
  ·
   have hhas : hasS (baseS t now) v = true := by cases hh : hasS (baseS t now) v with | true => rfl | false => rw [hh] at c40; cases c40
   refine skip ?_
   show Code.wp _ _ _ _ _
   refine seq ?_
   refine region ?_
   refine sv (yMove h0) ?_
   refine sv (yMove h1) ?_
   refine scall Tryz.call76 (.cons rfl (.cons rfl .nil)) (c_right ⟨cv, ag, cg, ak, ck, ae, ce, aw, cw, ax, cx, hS.at bk, RTable.stays _ _ _ _ hS.ext hT, hG.ext RGauge.stays hS.ext, hC.ext RCtr.stays hS.ext, hF.ext RFct.stays hS.ext, sl_spans (hS.row (.slice aw t.ticks.toNat cw)) (tidesS_len ..) (lbd_i64 (tides_lbd hok)), sl_ints (hS.row (.slice ax t.ctrs.length cx)) (curS_len ..) (cur_i64 hok)⟩ hok (hg.ext hS.ext) (hvr _ (fun it hi => hS.ok it ((List.mem_cons_of_mem _ (List.mem_cons_of_mem _ (List.mem_cons_of_mem _ (List.mem_cons_of_mem _ (List.mem_cons_of_mem _ hi))))))) hS.ext) hvl) ?_
   rintro _ w ⟨rv, rfl, hM⟩; replace hS := hS.call1 hM; clear hM
   refine sv (yMove rfl) ?_
   refine sv (yExt rfl rfl) ?_
   refine sv (yExt rfl rfl) ?_
   refine sv (yAsg rfl) ?_
   refine sv (yAsg rfl) ?_
   refine nil ?_
   show Code.wp _ _ _ _ _
   refine seq ?_
   refine region ?_
   refine sv (yMove rfl) ?_
   refine sv (yMove h0) ?_
   refine scall Tryz.call119 (.cons rfl .nil) (c_needS ⟨cv, ag, cg, ak, ck, ae, ce, aw, cw, ax, cx, hS.at bk, RTable.stays _ _ _ _ hS.ext hT, hG.ext RGauge.stays hS.ext, hC.ext RCtr.stays hS.ext, hF.ext RFct.stays hS.ext, sl_spans (hS.row (.slice aw t.ticks.toNat cw)) (tidesS_len ..) (lbd_i64 (tides_lbd hok)), sl_ints (hS.row (.slice ax t.ctrs.length cx)) (curS_len ..) (cur_i64 hok)⟩ hok) ?_
   rintro _ w ⟨rfl, hE⟩; replace hS := hS.step hE; clear hE
   refine sv (yGeq rfl rfl) ?_
   refine sv (yAsg rfl) ?_
   refine nil ?_
   show Code.wp _ _ _ _ _
   refine wp_ret ?_
   refine retQ (res1 rfl rfl) ?_
   exact ⟨by rw [is_all hrate hhas]; rfl, ov', baseS t now, _, .inr ⟨rfl, rfl⟩, hS.sub (.cons _ (.cons _ (List.Sublist.refl _)))⟩
end Go.Proofs.YtgidbailiababaaGreatDoor

/- part S20 -/
namespace Bx
open Go Go.RowKit
theorem ruled_perm {w0 w : World} {E : TypeId} {a b c d p q r s x nr : Item} (h : StX [] w0 w (nr :: p :: a :: b :: c :: d :: q :: r :: s :: x :: [])) : StX [] w0 w (q :: nr :: r :: s :: p :: rowI (.slice none 0 0) E 1 0 [] :: x :: []) := by
  have h1 : StX [] w0 w [nr, p, q, r, s, x] := h.sub (.cons_cons _ (.cons_cons _ (.cons _ (.cons _ (.cons _ (.cons _ (List.Sublist.refl _)))))))
  have h2 : StX [] w0 w [rowI (.slice none 0 0) E 1 0 [], nr, p, q, r, s, x] := h1.nilrow E 1
  refine h2.perm ?_
  refine List.Perm.trans (l₂ := q :: ([rowI (.slice none 0 0) E 1 0 [], nr, p] ++ [r, s, x])) (List.perm_middle (l₁ := [_, _, _])) (List.Perm.cons _ ?_)
  refine List.Perm.trans (l₂ := nr :: ([rowI (.slice none 0 0) E 1 0 []] ++ [p, r, s, x])) (List.perm_middle (l₁ := [_])) (List.Perm.cons _ ?_)
  refine List.Perm.trans (l₂ := r :: ([rowI (.slice none 0 0) E 1 0 [], p] ++ [s, x])) (List.perm_middle (l₁ := [_, _])) (List.Perm.cons _ ?_)
  refine List.Perm.trans (l₂ := s :: ([rowI (.slice none 0 0) E 1 0 [], p] ++ [x])) (List.perm_middle (l₁ := [_, _])) (List.Perm.cons _ ?_)
  exact List.Perm.swap _ _ _
theorem ruled_in {w0 w : World} {b k r t x p q s : Item} (h : StX [] w0 w (b :: k :: r :: t :: x :: p :: q :: s :: [])) : StX [] w0 w (k :: r :: t :: x :: (b :: p :: q :: s :: [])) :=
  h.perm (List.perm_middle (l₁ := [k, r, t, x]) (l₂ := [p, q, s]) (a := b)).symm
theorem ruled_back1 {w0 w : World} {b k r t x p q s : Item} (h : StX [] w0 w (k :: r :: t :: x :: b :: p :: q :: s :: [])) : StX [] w0 w (k :: r :: t :: x :: p :: q :: s :: []) :=
  h.sub (.cons_cons _ (.cons_cons _ (.cons_cons _ (.cons_cons _ (.cons _ (List.Sublist.refl _))))))
theorem ruled_back2 {w0 w : World} {c b k r t x p q s : Item} (h : StX [] w0 w (c :: k :: r :: t :: x :: b :: p :: q :: s :: [])) : StX [] w0 w (k :: r :: t :: x :: p :: q :: s :: []) :=
  ruled_back1 (h.sub (.cons _ (List.Sublist.refl _)))
section
variable {t : Sgt} {now th : Int}
theorem rul_yes {k : Nat} (h : (!isS t now ((posS t th).getD k [])) = true) : rulL t now th (k + 1) = rulL t now th k ++ [(k : Int)] := by
  unfold rulL
  rw [List.range_succ, List.filter_append, List.map_append]
  simp only [List.filter_cons, List.filter_nil, h, if_true, List.map_cons, List.map_nil]
theorem rul_no {k : Nat} (h : isS t now ((posS t th).getD k []) = true) : rulL t now th (k + 1) = rulL t now th k := by
  unfold rulL
  rw [List.range_succ, List.filter_append, List.map_append]
  simp only [List.filter_cons, List.filter_nil, h, Bool.not_true, Bool.false_eq_true, if_false, List.map_nil, List.append_nil]
theorem rul_le {k : Nat} : (rulL t now th k).length ≤ k := by
  unfold rulL
  rw [List.length_map]
  have := List.length_filter_le (fun i => !isS t now ((posS t th).getD i [])) (List.range k)
  rwa [List.length_range] at this
theorem rul_i64 {k : Nat} (hk : k ≤ 1000 := by omega) : ∀ x ∈ rulL t now th k, I64 x := fun x hx => by
  obtain ⟨i, hi, rfl⟩ := List.mem_map.1 hx
  have := List.mem_range.1 (List.mem_filter.1 hi).1
  exact ⟨by omega, by omega⟩
theorem pos_get {k : Nat} (h : k < (posS t th).length) : (posS t th)[k]? = some ((posS t th).getD k []) := by simp [h]
theorem pos_ok (h : SgOk t) {v : List Int} (hv : v ∈ posS t th) : v.length = t.ticks.toNat ∧ ∀ x ∈ v, Bd x (-200000) 200000 := by
  obtain ⟨b, hb, rfl⟩ : ∃ b ∈ boxS t th, v = highB b := by
    unfold posS at hv
    rw [posK_eq] at hv
    obtain ⟨i, hi, rfl⟩ := List.mem_map.1 hv
    exact ⟨_, List.mem_of_getElem? (boxAt_get (keepK_lt hi)), rfl⟩
  refine ⟨(high_len hb).1, fun x hx => ?_⟩
  have h1 := (box_is h hb).2
  have h2 := ((isS_iff th (high_len hb).1).1 h1).2.1
  obtain ⟨i, hi, rfl⟩ := List.getElem_of_mem hx
  have h3 := h2.2 i (by rw [← h2.1]; exact hi)
  have h4 := base_sbd h th i
  have e : (highB b).getD i 0 = (highB b)[i] := by simp [hi]
  rw [e, spn_at (baseS_get (by rw [← (high_len hb).1]; exact hi))] at h3
  unfold SBd at h4
  exact ⟨by omega, by omega⟩
end
end Bx

/- part Sx9 -/
namespace Go.Proofs.YtgidbailiababaaGreatDoor
open Go Bx
set_option maxHeartbeats 4000000 in
/-- barrage/surge.Ruled -/
theorem c_Ruled {t : Sgt} {cv : Value} {ag ak ae : Option Addr} {cg ck ce : Nat} {now th : Int} {w0 : World} (h : RSgt w0 [.int .i64 t.table.mean, cv, .slice ag t.gauges.length cg, .int .i64 t.wrong, .int .i64 t.frm, .int .i64 t.ticks, .slice ak t.ctrs.length ck, .slice ae t.fcs.length ce, .int .i64 t.least, .int .i64 t.most, .int .i64 t.rate, .int .i64 t.quorum] t) (hg : Glb w0) (hI : I64 now) (hT0 : I64 th) : CE Tryz.prog 33 #[.agg [.int .i64 t.table.mean, cv, .slice ag t.gauges.length cg, .int .i64 t.wrong, .int .i64 t.frm, .int .i64 t.ticks, .slice ak t.ctrs.length ck, .slice ae t.fcs.length ce, .int .i64 t.least, .int .i64 t.most, .int .i64 t.rate, .int .i64 t.quorum].toArray, .int .i64 th, .int .i64 now] w0 (fun u w' => ∃ v its, u = .tuple #[v, .int .i64 (rulR t now th).2] ∧ (∀ w2 : World, (∀ it ∈ its, it.ok w2) → Sl w2 1 RInt v ((rulR t now th).1)) ∧ St w0 w' [packI its]) := by
 obtain ⟨hT, hG, hw64, hf64, hk64, hC, hF, hl64, hm64, hr64, hq64⟩ := RSgt.parts h
 refine enter Tryz.func33 rfl Tryz.ntmps33 rfl ?_
 have hS := St.start w0
 refine seq ?_
 refine region ?_
 refine sbox hS rfl rfl ?_; clear hS; intro b3 w hS
 refine sv (yAsg rfl) ?_
 refine sv (yAsg rfl) ?_
 refine nil ?_
 show Code.wp _ _ _ _ _
 refine seq ?_
 refine region ?_
 refine sv (yLdBA rfl Tryz.isAgg29 Tryz.sizeOf29 (hS.at _) rfl rfl) ?_
 refine sv (yMove rfl) ?_
 refine scall Tryz.call63 (.cons rfl (.cons rfl .nil)) (c_with (h.ext hS.ext) hT0) ?_
 rintro _ w (⟨he, rfl, hE⟩ | ⟨he, bk, aw, cw, ax, cx, rfl, hM⟩)
 ·
  replace hS := hS.step hE; clear hE
  refine sv (yMove rfl) ?_
  refine sv (yExt rfl rfl) ?_
  refine sv (yExt rfl rfl) ?_
  refine sv (yAsg rfl) ?_
  refine sv (yAsg rfl) ?_
  refine nil ?_
  show Code.wp _ _ _ _ _
  refine seq ?_
  refine seq ?_
  refine region ?_
  refine sv (yMove rfl) ?_
  refine sv (yNeq rfl rfl) ?_
  refine nil ?_
  show Code.wp _ _ _ _ _
  refine cond rfl (fun c19 => ?_) (fun c19 => ?_)
  ·
   simp only [BS, ne_eq] at c19
   refine seq ?_
   refine region ?_
   refine sv (yMove rfl) ?_
   refine sv (yAsg rfl) ?_
   refine sv (yAsg rfl) ?_
   refine nil ?_
   show Code.wp _ _ _ _ _
   refine wp_ret (thenR ?_)
   refine retQ (res2 rfl rfl rfl) ?_
   have hE : rulE t now th = askE t th := by unfold rulE; rw [if_pos he]
   have hf : rulR t now th = ([], askE t th) := by unfold rulR; rw [hE, if_pos he]
   rw [hf]
   exact ⟨_, [], rfl, fun _ _ => sl_none, its0 hS⟩
  ·
   simp only [BS, ne_eq] at c19
   exact absurd c19 he
 ·
  replace hS := hS.call hM; clear hM
  replace hS : StX [] w0 w [blk bk [.int .i64 t.table.mean, cv, .slice ag t.gauges.length cg, .int .i64 t.wrong, .int .i64 t.frm, .int .i64 t.ticks, .slice ak t.ctrs.length ck, .slice ae t.fcs.length ce, .int .i64 t.least, .int .i64 t.most, .int .i64 t.rate, .int .i64 t.quorum, .int .i64 th, .slice aw t.ticks.toNat cw, .slice ax t.ctrs.length cx, .slice none 0 0] 123, rowI (.slice aw t.ticks.toNat cw) 74 2 t.ticks.toNat ((tidesS t).flatMap spanC), rowI (.slice ax t.ctrs.length cx) 3 1 t.ctrs.length ((curS t th).flatMap Bx.encI), blk b3 [.int .i64 t.table.mean, cv, .slice ag t.gauges.length cg, .int .i64 t.wrong, .int .i64 t.frm, .int .i64 t.ticks, .slice ak t.ctrs.length ck, .slice ae t.fcs.length ce, .int .i64 t.least, .int .i64 t.most, .int .i64 t.rate, .int .i64 t.quorum] 29] := hS
  obtain ⟨hok, hth⟩ := askE_ok he
  refine sv (yMove rfl) ?_
  refine sv (yExt rfl rfl) ?_
  refine sv (yExt rfl rfl) ?_
  refine sv (yAsg rfl) ?_
  refine sv (yAsg rfl) ?_
  refine nil ?_
  show Code.wp _ _ _ _ _
  refine seq ?_
  refine seq ?_
  refine region ?_
  refine sv (yMove rfl) ?_
  refine sv (yNeq rfl rfl) ?_
  refine nil ?_
  show Code.wp _ _ _ _ _
  refine cond rfl (fun c19 => ?_) (fun c19 => ?_)
  ·
   exact absurd c19 (by decide)
  ·
   refine skip ?_
   show Code.wp _ _ _ _ _
   refine seq ?_
   refine region ?_
   refine sv (yLdBA rfl Tryz.isAgg29 Tryz.sizeOf29 (hS.at _) rfl rfl) ?_
   refine sv (yMove rfl) ?_
   refine scall Tryz.call63 (.cons rfl (.cons rfl .nil)) (c_with (h.ext hS.ext) hI) ?_
   rintro _ w (⟨he2, rfl, hE⟩ | ⟨he2, bk2, aw2, cw2, ax2, cx2, rfl, hM⟩)
   ·
    replace hS := hS.step hE; clear hE
    refine sv (yMove rfl) ?_
    refine sv (yExt rfl rfl) ?_
    refine sv (yExt rfl rfl) ?_
    refine sv (yAsg rfl) ?_
    refine sv (yAsg rfl) ?_
    refine nil ?_
    show Code.wp _ _ _ _ _
    refine seq ?_
    refine seq ?_
    refine region ?_
    refine sv (yMove rfl) ?_
    refine sv (yNeq rfl rfl) ?_
    refine nil ?_
    show Code.wp _ _ _ _ _
    refine cond rfl (fun c28 => ?_) (fun c28 => ?_)
    ·
     simp only [BS, ne_eq] at c28
     refine seq ?_
     refine region ?_
     refine sv (yMove rfl) ?_
     refine sv (yAsg rfl) ?_
     refine sv (yAsg rfl) ?_
     refine nil ?_
     show Code.wp _ _ _ _ _
     refine wp_ret (thenR ?_)
     refine retQ (res2 rfl rfl rfl) ?_
     have hE : rulE t now th = askE t now := by unfold rulE; rw [if_neg (fun k => k he), if_pos he2]
     have hf : rulR t now th = ([], askE t now) := by unfold rulR; rw [hE, if_pos he2]
     rw [hf]
     exact ⟨_, [], rfl, fun _ _ => sl_none, its0 hS⟩
    ·
     simp only [BS, ne_eq] at c28
     exact absurd c28 he2
   ·
    replace hS := hS.call hM; clear hM
    replace hS : StX [] w0 w [blk bk2 [.int .i64 t.table.mean, cv, .slice ag t.gauges.length cg, .int .i64 t.wrong, .int .i64 t.frm, .int .i64 t.ticks, .slice ak t.ctrs.length ck, .slice ae t.fcs.length ce, .int .i64 t.least, .int .i64 t.most, .int .i64 t.rate, .int .i64 t.quorum, .int .i64 now, .slice aw2 t.ticks.toNat cw2, .slice ax2 t.ctrs.length cx2, .slice none 0 0] 123, rowI (.slice aw2 t.ticks.toNat cw2) 74 2 t.ticks.toNat ((tidesS t).flatMap spanC), rowI (.slice ax2 t.ctrs.length cx2) 3 1 t.ctrs.length ((curS t now).flatMap Bx.encI), blk bk [.int .i64 t.table.mean, cv, .slice ag t.gauges.length cg, .int .i64 t.wrong, .int .i64 t.frm, .int .i64 t.ticks, .slice ak t.ctrs.length ck, .slice ae t.fcs.length ce, .int .i64 t.least, .int .i64 t.most, .int .i64 t.rate, .int .i64 t.quorum, .int .i64 th, .slice aw t.ticks.toNat cw, .slice ax t.ctrs.length cx, .slice none 0 0] 123, rowI (.slice aw t.ticks.toNat cw) 74 2 t.ticks.toNat ((tidesS t).flatMap spanC), rowI (.slice ax t.ctrs.length cx) 3 1 t.ctrs.length ((curS t th).flatMap Bx.encI), blk b3 [.int .i64 t.table.mean, cv, .slice ag t.gauges.length cg, .int .i64 t.wrong, .int .i64 t.frm, .int .i64 t.ticks, .slice ak t.ctrs.length ck, .slice ae t.fcs.length ce, .int .i64 t.least, .int .i64 t.most, .int .i64 t.rate, .int .i64 t.quorum] 29] := hS
    obtain ⟨-, hnow⟩ := askE_ok he2
    refine sv (yMove rfl) ?_
    refine sv (yExt rfl rfl) ?_
    refine sv (yExt rfl rfl) ?_
    refine sv (yAsg rfl) ?_
    refine sv (yAsg rfl) ?_
    refine nil ?_
    show Code.wp _ _ _ _ _
    refine seq ?_
    refine seq ?_
    refine region ?_
    refine sv (yMove rfl) ?_
    refine sv (yNeq rfl rfl) ?_
    refine nil ?_
    show Code.wp _ _ _ _ _
    refine cond rfl (fun c28 => ?_) (fun c28 => ?_)
    ·
     exact absurd c28 (by decide)
    ·
     refine skip ?_
     show Code.wp _ _ _ _ _
     refine seq ?_
     refine seq ?_
     refine region ?_
     refine sv (yMove rfl) ?_
     replace hS : StX [] w0 w (blk bk [.int .i64 t.table.mean, cv, .slice ag t.gauges.length cg, .int .i64 t.wrong, .int .i64 t.frm, .int .i64 t.ticks, .slice ak t.ctrs.length ck, .slice ae t.fcs.length ce, .int .i64 t.least, .int .i64 t.most, .int .i64 t.rate, .int .i64 t.quorum, .int .i64 th, .slice aw t.ticks.toNat cw, .slice ax t.ctrs.length cx, .slice none 0 0] 123 :: rowI (.slice aw t.ticks.toNat cw) 74 2 t.ticks.toNat ((tidesS t).flatMap spanC) :: rowI (.slice ax t.ctrs.length cx) 3 1 t.ctrs.length ((curS t th).flatMap Bx.encI) :: blk bk2 [.int .i64 t.table.mean, cv, .slice ag t.gauges.length cg, .int .i64 t.wrong, .int .i64 t.frm, .int .i64 t.ticks, .slice ak t.ctrs.length ck, .slice ae t.fcs.length ce, .int .i64 t.least, .int .i64 t.most, .int .i64 t.rate, .int .i64 t.quorum, .int .i64 now, .slice aw2 t.ticks.toNat cw2, .slice ax2 t.ctrs.length cx2, .slice none 0 0] 123 :: rowI (.slice aw2 t.ticks.toNat cw2) 74 2 t.ticks.toNat ((tidesS t).flatMap spanC) :: rowI (.slice ax2 t.ctrs.length cx2) 3 1 t.ctrs.length ((curS t now).flatMap Bx.encI) :: blk b3 [.int .i64 t.table.mean, cv, .slice ag t.gauges.length cg, .int .i64 t.wrong, .int .i64 t.frm, .int .i64 t.ticks, .slice ak t.ctrs.length ck, .slice ae t.fcs.length ce, .int .i64 t.least, .int .i64 t.most, .int .i64 t.rate, .int .i64 t.quorum] 29 :: []) := hS.perm (List.perm_append_comm_assoc [_, _, _] [_, _, _] [_])
     refine scall Tryz.call67 (.cons rfl .nil) (c_possible h hok hth hg (.inl ⟨rfl, rfl, rfl⟩) ((hS.nilrow 74 2).perm (List.Perm.swap _ _ _))) ?_
     rintro uv w ⟨ov1, its, hit, hel, hM⟩; clear hS; have hS := hM; clear hM
     have hbn : (posS t th).length ≤ 625 := Nat.le_trans posK_le (Nat.le_trans boxL_len (cho_bd hok))
     obtain ⟨au, cu, rfl⟩ : ∃ au cu, uv = .slice au (posS t th).length cu := by
      obtain ⟨au, cu, e, -⟩ := hit w (fun it hi => hS.ok (packI its) (by simp) it hi)
      exact ⟨au, cu, by rw [e, List.length_map]⟩
     replace hS := ruled_perm (E := 3) (hS.nilrow 74 2)
     refine sv (yLen rfl Tryz.underlying45) ?_
     refine sv (yMove rfl) ?_
     refine nil ?_
     show Code.wp _ _ _ _ _
     refine block ?_
     refine loop (fun f w zz => ∃ (k : Nat) (pv ov : Value) (os : List Span) (mo : Nat), f 6 = pv ∧ f 9 = .pointer (some ⟨bk2, 0, none⟩) ∧ f 31 = .slice au (posS t th).length cu ∧ f 32 = .int .i64 ((posS t th).length : Int) ∧ f 33 = .int .i64 (k : Int) ∧ StX [] w0 w (blk bk2 [.int .i64 t.table.mean, cv, .slice ag t.gauges.length cg, .int .i64 t.wrong, .int .i64 t.frm, .int .i64 t.ticks, .slice ak t.ctrs.length ck, .slice ae t.fcs.length ce, .int .i64 t.least, .int .i64 t.most, .int .i64 t.rate, .int .i64 t.quorum, .int .i64 now, .slice aw2 t.ticks.toNat cw2, .slice ax2 t.ctrs.length cx2, ov] 123 :: rowI (ov) 74 2 mo ((os).flatMap spanC) :: rowI (.slice aw2 t.ticks.toNat cw2) 74 2 t.ticks.toNat ((tidesS t).flatMap spanC) :: rowI (.slice ax2 t.ctrs.length cx2) 3 1 t.ctrs.length ((curS t now).flatMap Bx.encI) :: packI its :: rowI (pv) 3 1 (rulL t now th k).length ((rulL t now th k).flatMap Bx.encI) :: blk b3 [.int .i64 t.table.mean, cv, .slice ag t.gauges.length cg, .int .i64 t.wrong, .int .i64 t.frm, .int .i64 t.ticks, .slice ak t.ctrs.length ck, .slice ae t.fcs.length ce, .int .i64 t.least, .int .i64 t.most, .int .i64 t.rate, .int .i64 t.quorum] 29 :: []) ∧ (k ≤ (posS t th).length) ∧ ((os = [] ∧ mo = 0 ∧ ov = .slice none 0 0) ∨ (os = baseS t now ∧ mo = t.ticks.toNat)) ∧ zz = (posS t th).length - k) _ ⟨_, rfl, 0, _, _, [], 0, rfl, rfl, rfl, rfl, rfl, hS, (Nat.zero_le _), (.inl ⟨rfl, rfl, rfl⟩), rfl⟩ ?_
     clear hS
     rintro f w _ ⟨k, pv, ov, os, mo, h6, h9, h31, h32, h33, hS, hk, hown, rfl⟩
     refine seq ?_
     refine region ?_
     refine sv (yLss h33 h32) ?_
     refine nil ?_
     show Code.wp _ _ _ _ _
     refine seq ?_
     refine cond rfl (fun c34 => ?_) (fun c34 => ?_)
     ·
      simp only [BS, ne_eq] at c34
      have hkn : k < (posS t th).length := by omega
      obtain ⟨vi, hvi⟩ := hel k hkn
      obtain ⟨⟨gu, cpu, heu, hcu⟩, hvs⟩ := hvi w (fun it hi => hS.ok (packI its) (by simp) it hi)
      obtain ⟨avk, cvk, rfl, -⟩ := id hvs
      have hau : au = some ⟨gu, 0, none⟩ := by cases heu; rfl
      have hrl : (rulL t now th k).length ≤ k := rul_le
      have hpl := pos_ok hok (List.mem_of_getElem? (pos_get hkn))
      refine skip ?_
      show Code.wp _ _ _ _ _
      refine seq ?_
      refine block ?_
      refine seq ?_
      refine region ?_
      refine sv (yMove h33) ?_
      refine sv (yIxa h31 hau h33 Tryz.runUnderlying45 Tryz.sizeOf41 (by omega) (by omega)) ?_
      refine sv (yLdA rfl Tryz.isAgg41 Tryz.sizeOf41 hcu rfl) ?_
      refine salloc hS Tryz.zeroValue41 rfl ?_; clear hS; intro b11 w hS
      refine sv (yAsg rfl) ?_
      refine sst hS rfl rfl Tryz.sizeOf41 rfl rfl rfl rfl ?_; clear hS; intro w hS
      refine nil ?_
      show Code.wp _ _ _ _ _
      refine seq ?_
      refine region ?_
      replace hS := ruled_in hS
      refine sv (yMove h9) ?_
      refine sv (fa41_1 rfl) ?_
      refine sv (yLdB rfl Tryz.isAgg39 (hS.at _) rfl) ?_
      refine scall Tryz.call70 (.cons rfl (.cons rfl .nil)) (c_is (v := ((posS t th).getD k [])) h hok hnow hg hown hS (fun w2 hi2 _ => (hvi w2 (fun it hi => hi2 (packI its) (by simp) it hi)).2) hpl.1 hpl.2) ?_
      rintro _ w ⟨rfl, ov', os', mo', hown', hM⟩; clear hS; have hS := hM; clear hM
      refine sv (yNot rfl) ?_
      refine nil ?_
      show Code.wp _ _ _ _ _
      refine cond rfl (fun c42 => ?_) (fun c42 => ?_)
      ·
       have hisv : isS t now ((posS t th).getD k []) = false := by cases hh : isS t now ((posS t th).getD k []) with | false => rfl | true => rw [hh] at c42; cases c42
       refine region ?_
       refine sv (yMove h6) ?_
       refine sv (yMove rfl) ?_
       refine sbslice hS Tryz.underlying39 Tryz.sizeOf3 rfl Tryz.zeroValue3 rfl (.cons rfl rfl .nil) rfl ?_; clear hS; intro b45 w hS
       refine sapp (bytes := 8) (size := 1) (v := pv) (m := 1) hS rfl rfl Tryz.underlying39 ti3 rfl rfl rfl rfl (by decide) (blk_cells (hS.at _)) rfl rfl (by omega) (by omega) ?_; clear hS; intro v46 w hS
       refine sv (yAsg rfl) ?_
       refine nil ?_
       show Code.wp _ _ _ _ _
       refine region ?_
       refine sv (yAdd h33 rfl ⟨by omega, by omega⟩) ?_
       refine sv (yMove rfl) ?_
       refine nil ?_
       exact ⟨_, _, rfl, ⟨k + 1, _, ov', os', mo', rfl, h9, h31, h32, rfl, (by rw [rul_yes (by rw [hisv]; rfl), List.flatMap_append, List.length_append]; exact ruled_back2 hS), (by omega), (hown'), rfl⟩, by omega⟩
      ·
       have hisv : isS t now ((posS t th).getD k []) = true := by cases hh : isS t now ((posS t th).getD k []) with | true => rfl | false => rw [hh] at c42; cases c42
       refine skip ?_
       show Code.wp _ _ _ _ _
       refine region ?_
       refine sv (yAdd h33 rfl ⟨by omega, by omega⟩) ?_
       refine sv (yMove rfl) ?_
       refine nil ?_
       exact ⟨_, _, rfl, ⟨k + 1, _, ov', os', mo', h6, h9, h31, h32, rfl, (by rw [rul_no hisv]; exact ruled_back1 hS), (by omega), (hown'), rfl⟩, by omega⟩
     ·
      simp only [BS, ne_eq] at c34
      obtain rfl : k = (posS t th).length := by omega
      refine exit ?_
      show Code.wp _ _ _ _ _
      refine seq ?_
      refine region ?_
      refine sv (yMove h6) ?_
      refine sv (yAsg rfl) ?_
      refine sv (yAsg rfl) ?_
      refine nil ?_
      show Code.wp _ _ _ _ _
      refine wp_ret ?_
      refine retQ (res2 rfl rfl rfl) ?_
      have hE : rulE t now th = 0 := by unfold rulE; rw [if_neg (fun k => k he), if_neg (fun k => k he2)]
      have hf : rulR t now th = (rulL t now th (posS t th).length, 0) := by unfold rulR; rw [hE, if_neg (by decide)]
      rw [hf]
      exact ⟨_, [rowI (pv) 3 1 (rulL t now th (posS t th).length).length ((rulL t now th (posS t th).length).flatMap Bx.encI)], rfl, fun w2 hi => sl_ints (hi (rowI (pv) 3 1 (rulL t now th (posS t th).length).length ((rulL t now th (posS t th).length).flatMap Bx.encI)) (by simp)) rfl rul_i64, its1 (hS.sub (.cons _ (.cons _ (.cons _ (.cons _ (.cons _ (List.Sublist.refl _)))))))⟩
end Go.Proofs.YtgidbailiababaaGreatDoor

/- part Sx11 -/
namespace Go.Proofs.YtgidbailiababaaGreatDoor
open Go Bx
set_option maxHeartbeats 2000000 in
/-- barrage/surge.Tube -/
theorem c_Tube {t : Sgt} {cv : Value} {ag ak ae : Option Addr} {cg ck ce : Nat} {fi mi : Int} {w0 : World} (h : RSgt w0 [.int .i64 t.table.mean, cv, .slice ag t.gauges.length cg, .int .i64 t.wrong, .int .i64 t.frm, .int .i64 t.ticks, .slice ak t.ctrs.length ck, .slice ae t.fcs.length ce, .int .i64 t.least, .int .i64 t.most, .int .i64 t.rate, .int .i64 t.quorum] t) (hg : Glb w0) (hF0 : I64 fi) (hM0 : I64 mi) : CE Tryz.prog 41 #[.agg [.int .i64 t.table.mean, cv, .slice ag t.gauges.length cg, .int .i64 t.wrong, .int .i64 t.frm, .int .i64 t.ticks, .slice ak t.ctrs.length ck, .slice ae t.fcs.length ce, .int .i64 t.least, .int .i64 t.most, .int .i64 t.rate, .int .i64 t.quorum].toArray, .int .i64 fi, .int .i64 mi] w0 (fun u w' => ∃ v its, u = .tuple #[v, .int .i64 (tubR t fi mi).2] ∧ (∀ w2 : World, (∀ it ∈ its, it.ok w2) → Sl w2 2 RSpan v ((tubR t fi mi).1)) ∧ St w0 w' [packI its]) := by
 obtain ⟨hT, hG, hw64, hf64, hk64, hC, hF, hl64, hm64, hr64, hq64⟩ := RSgt.parts h
 have hI : I64 0 := ⟨by decide, by decide⟩
 have hask : askE t 0 = (checkS t).2.2 := by
  unfold askE
  split
  ·
   rfl
  ·
   next h => rw [if_neg (by decide)]; exact (Decidable.not_not.1 h).symm
 refine enter Tryz.func41 rfl Tryz.ntmps41 rfl ?_
 have hS := St.start w0
 refine seq ?_
 refine region ?_
 refine sbox hS rfl rfl ?_; clear hS; intro b3 w hS
 refine sv (yAsg rfl) ?_
 refine sv (yAsg rfl) ?_
 refine nil ?_
 show Code.wp _ _ _ _ _
 refine seq ?_
 refine region ?_
 refine sv (yLdBA rfl Tryz.isAgg29 Tryz.sizeOf29 (hS.at _) rfl rfl) ?_
 refine scall Tryz.call63 (.cons rfl (.cons rfl .nil)) (c_with (h.ext hS.ext) hI) ?_
 rintro _ w (⟨he, rfl, hE⟩ | ⟨he, bk, aw, cw, ax, cx, rfl, hM⟩)
 ·
  replace hS := hS.step hE; clear hE
  refine sv (yMove rfl) ?_
  refine sv (yExt rfl rfl) ?_
  refine sv (yExt rfl rfl) ?_
  refine sv (yAsg rfl) ?_
  refine sv (yAsg rfl) ?_
  refine nil ?_
  show Code.wp _ _ _ _ _
  refine seq ?_
  refine block ?_
  refine seq ?_
  refine region ?_
  refine sv (yMove rfl) ?_
  refine sv (yNeq rfl rfl) ?_
  refine sv (yAsg rfl) ?_
  refine nil ?_
  show Code.wp _ _ _ _ _
  refine cond rfl (fun c15 => ?_) (fun c15 => ?_)
  ·
   simp only [BS, ne_eq] at c15
   refine seq ?_
   refine region ?_
   refine sv (yMove rfl) ?_
   refine sv (yAsg rfl) ?_
   refine sv (yAsg rfl) ?_
   refine nil ?_
   show Code.wp _ _ _ _ _
   refine wp_ret (blockR (thenR ?_))
   refine retQ (res2 rfl rfl rfl) ?_
   have hE : tubE t fi mi = askE t 0 := by unfold tubE; rw [← hask, if_pos he]
   have hf : tubR t fi mi = ([], askE t 0) := by unfold tubR; rw [hE, if_pos he]
   rw [hf]
   exact ⟨_, [], rfl, fun _ _ => sl_none, its0 hS⟩
  ·
   simp only [BS, ne_eq] at c15
   exact absurd c15 he
 ·
  replace hS := hS.call hM; clear hM
  replace hS : StX [] w0 w [blk bk [.int .i64 t.table.mean, cv, .slice ag t.gauges.length cg, .int .i64 t.wrong, .int .i64 t.frm, .int .i64 t.ticks, .slice ak t.ctrs.length ck, .slice ae t.fcs.length ce, .int .i64 t.least, .int .i64 t.most, .int .i64 t.rate, .int .i64 t.quorum, .int .i64 0, .slice aw t.ticks.toNat cw, .slice ax t.ctrs.length cx, .slice none 0 0] 123, rowI (.slice aw t.ticks.toNat cw) 74 2 t.ticks.toNat ((tidesS t).flatMap spanC), rowI (.slice ax t.ctrs.length cx) 3 1 t.ctrs.length ((curS t 0).flatMap Bx.encI), blk b3 [.int .i64 t.table.mean, cv, .slice ag t.gauges.length cg, .int .i64 t.wrong, .int .i64 t.frm, .int .i64 t.ticks, .slice ak t.ctrs.length ck, .slice ae t.fcs.length ce, .int .i64 t.least, .int .i64 t.most, .int .i64 t.rate, .int .i64 t.quorum] 29] := hS
  obtain ⟨hok, hnow⟩ := askE_ok he
  have htk := hok.tk
  have hnc := hok.nc
  have hnf := hok.nf
  refine sv (yMove rfl) ?_
  refine sv (yExt rfl rfl) ?_
  refine sv (yExt rfl rfl) ?_
  refine sv (yAsg rfl) ?_
  refine sv (yAsg rfl) ?_
  refine nil ?_
  show Code.wp _ _ _ _ _
  refine seq ?_
  refine block ?_
  refine seq ?_
  refine region ?_
  refine sv (yMove rfl) ?_
  refine sv (yNeq rfl rfl) ?_
  refine sv (yAsg rfl) ?_
  refine nil ?_
  show Code.wp _ _ _ _ _
  refine cond rfl (fun c15 => ?_) (fun c15 => ?_)
  ·
   exact absurd c15 (by decide)
  ·
   refine seq ?_
   rcases Bool.eq_false_or_eq_true (outB fi 0 (t.fcs.length - 1)) with hob | hob
   ·
    refine region ?_
    refine sv (yMove rfl) ?_
    refine sv (fa29_6 rfl) ?_
    refine sv (yLdB rfl Tryz.isAgg27 (hS.at _) rfl) ?_
    refine sv (yLen rfl Tryz.underlying27) ?_
    refine sv (ySub rfl rfl ⟨by omega, by omega⟩) ?_
    refine scall Tryz.call53 (.cons rfl (.cons rfl (.cons rfl .nil))) c_outS ?_
    rintro _ w ⟨rfl, hE⟩; replace hS := hS.step hE; clear hE
    refine sv (yMove rfl) ?_
    refine ungn (v := .bool (outB fi 0 (t.fcs.length - 1))) rfl rfl rfl (by rw [hob]; simp) ?_
    refine ungn (v := .bool (outB fi 0 (t.fcs.length - 1))) rfl rfl rfl (by rw [hob]; simp) ?_
    refine ungn (v := .bool (outB fi 0 (t.fcs.length - 1))) rfl rfl rfl (by rw [hob]; simp) ?_
    refine ungn (v := .bool (outB fi 0 (t.fcs.length - 1))) rfl rfl rfl (by rw [hob]; simp) ?_
    refine ungn (v := .bool (outB fi 0 (t.fcs.length - 1))) rfl rfl rfl (by rw [hob]; simp) ?_
    refine ungn (v := .bool (outB fi 0 (t.fcs.length - 1))) rfl rfl rfl (by rw [hob]; simp) ?_
    refine ungn (v := .bool (outB fi 0 (t.fcs.length - 1))) rfl rfl rfl (by rw [hob]; simp) ?_
    refine ungn (v := .bool (outB fi 0 (t.fcs.length - 1))) rfl rfl rfl (by rw [hob]; simp) ?_
    refine ungn (v := .bool (outB fi 0 (t.fcs.length - 1))) rfl rfl rfl (by rw [hob]; simp) ?_
    refine ungn (v := .bool (outB fi 0 (t.fcs.length - 1))) rfl rfl rfl (by rw [hob]; simp) ?_
    refine sv (yPick (v := .bool (outB fi 0 (t.fcs.length - 1))) (B := outB fi 0 (t.fcs.length - 1)) rfl (fun _ => by rw [hob]; rfl) (fun h => absurd (hob.symm.trans h) (by decide))) ?_
    refine sv (yAsg rfl) ?_
    refine nil ?_
    show Code.wp _ _ _ _ _
    refine cond rfl (fun c19 => ?_) (fun c19 => ?_)
    ·
     refine seq ?_
     refine region ?_
     refine sv (yAsg rfl) ?_
     refine sv (yAsg rfl) ?_
     refine nil ?_
     show Code.wp _ _ _ _ _
     refine wp_ret (blockR (thenR ?_))
     refine retQ (res2 rfl rfl rfl) ?_
     have hE : tubE t fi mi = 4 := by unfold tubE; rw [← hask, if_neg (fun k => k he), hob]; rfl
     have hf : tubR t fi mi = ([], 4) := by unfold tubR; rw [hE, if_pos (by decide)]
     rw [hf]
     exact ⟨_, [], rfl, fun _ _ => sl_none, its0 hS⟩
    ·
     rw [hob] at c19; cases c19
   ·
    obtain ⟨hi0, hi1⟩ := outB_false.1 hob
    have hfl : fi.toNat < t.fcs.length := by omega
    have hfo := hok.fcts hfl
    have hnm := hfo.nm
    obtain ⟨bf, of, csf, haf, -, hcf, hRf, -⟩ := sl_at hF (fct_get hfl)
    obtain ⟨mv, rfl, hf1, hf2, hf3, hMm⟩ := id hRf
    obtain ⟨am, cm, rfl, hmcap, hmmx, -⟩ := id hMm
    refine region ?_
    refine sv (yMove rfl) ?_
    refine sv (fa29_6 rfl) ?_
    refine sv (yLdB rfl Tryz.isAgg27 (hS.at _) rfl) ?_
    refine sv (yLen rfl Tryz.underlying27) ?_
    refine sv (ySub rfl rfl ⟨by omega, by omega⟩) ?_
    refine scall Tryz.call53 (.cons rfl (.cons rfl (.cons rfl .nil))) c_outS ?_
    rintro _ w ⟨rfl, hE⟩; replace hS := hS.step hE; clear hE
    refine sv (yMove rfl) ?_
    refine ungo rfl rfl (congrArg Value.bool hob) ?_
    refine sv (yMove rfl) ?_
    refine ungo rfl rfl (congrArg Value.bool hob) ?_
    refine sv (fa29_6 rfl) ?_
    refine ungo rfl rfl (congrArg Value.bool hob) ?_
    refine sv (yLdB rfl Tryz.isAgg27 (hS.at _) rfl) ?_
    refine ungo rfl rfl (congrArg Value.bool hob) ?_
    refine sv (yMove rfl) ?_
    refine ungo rfl rfl (congrArg Value.bool hob) ?_
    refine sv (yIxa rfl haf (rfl.trans (congrArg (Value.int .i64) (show fi = ((fi.toNat : Nat) : Int) by omega))) Tryz.runUnderlying27 Tryz.sizeOf61 (by omega) (by omega)) ?_
    refine ungo rfl rfl (congrArg Value.bool hob) ?_
    refine sv (fa61_3 rfl) ?_
    refine ungo rfl rfl (congrArg Value.bool hob) ?_
    refine sv (yLd rfl Tryz.isAgg59 ((hcf.ext hS.ext).at (j := 3) rfl)) ?_
    refine ungo rfl rfl (congrArg Value.bool hob) ?_
    refine sv (yLen rfl Tryz.underlying59) ?_
    refine ungo rfl rfl (congrArg Value.bool hob) ?_
    refine sv (ySub rfl rfl ⟨by omega, by omega⟩) ?_
    refine ungo rfl rfl (congrArg Value.bool hob) ?_
    refine scall Tryz.call53 (.cons rfl (.cons rfl (.cons rfl .nil))) c_outS ?_
    rintro _ w ⟨rfl, hE⟩; replace hS := hS.step hE; clear hE
    refine sv (yPick (v := .bool (outB mi 0 ((fct t.fcs fi.toNat).members.length - 1))) (B := outB fi 0 (t.fcs.length - 1)) rfl (fun h => absurd (hob.symm.trans h) (by decide)) (fun _ => rfl)) ?_
    refine sv (yAsg rfl) ?_
    refine nil ?_
    show Code.wp _ _ _ _ _
    refine cond rfl (fun c19 => ?_) (fun c19 => ?_)
    ·
     refine seq ?_
     refine region ?_
     refine sv (yAsg rfl) ?_
     refine sv (yAsg rfl) ?_
     refine nil ?_
     show Code.wp _ _ _ _ _
     refine wp_ret (blockR (thenR ?_))
     refine retQ (res2 rfl rfl rfl) ?_
     have hE : tubE t fi mi = 4 := by unfold tubE; rw [← hask, if_neg (fun k => k he), hob, c19]; rfl
     have hf : tubR t fi mi = ([], 4) := by unfold tubR; rw [hE, if_pos (by decide)]
     rw [hf]
     exact ⟨_, [], rfl, fun _ _ => sl_none, its0 hS⟩
    ·
     obtain ⟨hm0, hm1⟩ := outB_false.1 c19
     obtain ⟨mn, rfl⟩ : ∃ mn : Nat, mi = mn := ⟨mi.toNat, by omega⟩
     refine skip ?_
     show Code.wp _ _ _ _ _
     refine seq ?_
     refine region ?_
     refine sv (yMove rfl) ?_
     refine sv (fa29_6 rfl) ?_
     refine sv (yLdB rfl Tryz.isAgg27 (hS.at _) rfl) ?_
     refine sv (yMove rfl) ?_
     refine sv (yIxa rfl haf (rfl.trans (congrArg (Value.int .i64) (show fi = ((fi.toNat : Nat) : Int) by omega))) Tryz.runUnderlying27 Tryz.sizeOf61 (by omega) (by omega)) ?_
     refine sv (yLdA rfl Tryz.isAgg61 Tryz.sizeOf61 (hcf.ext hS.ext) rfl) ?_
     refine sv (yMove rfl) ?_
     refine scall Tryz.call83 (.cons rfl (.cons rfl (.cons rfl .nil))) (c_tubeS (now := 0) ⟨cv, ag, cg, ak, ck, ae, ce, aw, cw, ax, cx, hS.at bk, RTable.stays _ _ _ _ hS.ext hT, hG.ext RGauge.stays hS.ext, hC.ext RCtr.stays hS.ext, hF.ext RFct.stays hS.ext, sl_spans (hS.row (.slice aw t.ticks.toNat cw)) (tidesS_len ..) (lbd_i64 (tides_lbd hok)), sl_ints (hS.row (.slice ax t.ctrs.length cx)) (curS_len ..) (cur_i64 hok)⟩ hok (hg.ext hS.ext) hfo (m := mn) (by omega) (hMm.ext RRow.stays hS.ext)) ?_
     rintro tv w hM; replace hS := hS.call1 hM; clear hM
     have htl := tubeS_lbd hok hfo (show mn < (fct t.fcs fi.toNat).members.length by omega)
     refine sv (yAsg rfl) ?_
     refine sv (yAsg rfl) ?_
     refine nil ?_
     show Code.wp _ _ _ _ _
     refine wp_ret ?_
     refine retQ (res2 rfl rfl rfl) ?_
     have hE : tubE t fi mn = 0 := by unfold tubE; rw [← hask, if_neg (fun k => k he), hob, c19]; rfl
     have hf : tubR t fi mn = (tubeS t (fct t.fcs fi.toNat) (mem (fct t.fcs fi.toNat) mn), 0) := by unfold tubR; rw [hE, if_neg (by decide)]; rfl
     rw [hf]
     exact ⟨_, [rowI (tv) 74 2 t.ticks.toNat ((tubeS t (fct t.fcs fi.toNat) (mem (fct t.fcs fi.toNat) mn)).flatMap spanC)], rfl, fun w2 hi => sl_spans (hi (rowI (tv) 74 2 t.ticks.toNat ((tubeS t (fct t.fcs fi.toNat) (mem (fct t.fcs fi.toNat) mn)).flatMap spanC)) (by simp)) (tubeS_len ..) (lbd_i64 htl), its1 hS⟩
end Go.Proofs.YtgidbailiababaaGreatDoor

/- part S23 -/
namespace Bx
open Go Go.RowKit
def exC1 : Ctr := ⟨⟨#[109, 101, 116]⟩, 2, 100, 50⟩
def exC2 : Ctr := ⟨⟨#[111, 99, 101, 97, 110]⟩, 5, 200, 0⟩
def exF1 : Fct := ⟨0, 88, 100, [[1000, 1500, 2000], [500, 700, 900]]⟩
def exF2 : Fct := ⟨1, 90, 101, [[2500, 2600]]⟩
def exF3 : Fct := ⟨0, 94, 100, [[1200, 1800, 2600]]⟩
def exS : Sgt := ⟨⟨0, []⟩, [], 0, 100, 3, [exC1, exC2], [exF1, exF2, exF3], -500, 4000, 800, 1⟩
theorem exs_rs {w : World} {cv fv : Value} (hc : Sl w 4 RCtr cv [exC1, exC2]) (hf : Sl w 4 RFct fv [exF1, exF2, exF3]) : RSgt w [.int .i64 0, .slice none 0 0, .slice none 0 0, .int .i64 0, .int .i64 100, .int .i64 3, cv, fv, .int .i64 (-500), .int .i64 4000, .int .i64 800, .int .i64 1] exS :=
  ⟨_, _, _, _, rfl, ⟨_, rfl, by decide, sl_none⟩, sl_none, by decide, by decide, by decide, hc, hf, by decide, by decide, by decide, by decide⟩
theorem exs_pos : posR exS 95 = ([[3500, 2700, 2800]], 0) := by decide +kernel
theorem exs_rul : rulR exS 96 90 = ([0], 0) := by decide +kernel
theorem exs_tub : tubR exS 3 0 = ([], 4) := by decide +kernel
end Bx

/- part Sx14 -/
namespace Go.Proofs.YtgidbailiababaaGreatDoor
open Go Bx
set_option maxHeartbeats 1000000 in
/-- barrage/barrageref02.Ints -/
theorem c_Ints {va vb : Value} {a b : List Int} {w0 : World} (ha : Sl w0 1 RInt va a) (hb : Sl w0 1 RInt vb b) : CV Tryz.prog 22 #[va, vb] w0 (.bool (decide (a = b))) := by
 obtain ⟨aa, ca, rfl, hacap, hamx, -⟩ := id ha
 obtain ⟨ab, cb, rfl, -⟩ := id hb
 refine enter Tryz.func22 rfl Tryz.ntmps22 rfl ?_
 have hS := St.start w0
 refine seq ?_
 refine region ?_
 refine sv (yAsg rfl) ?_
 refine nil ?_
 show Code.wp _ _ _ _ _
 refine seq ?_
 refine seq ?_
 refine region ?_
 refine sv (yMove rfl) ?_
 refine sv (yLen rfl Tryz.underlying39) ?_
 refine sv (yMove rfl) ?_
 refine sv (yLen rfl Tryz.underlying39) ?_
 refine sv (yNeq rfl rfl) ?_
 refine nil ?_
 show Code.wp _ _ _ _ _
 refine cond rfl (fun c10 => ?_) (fun c10 => ?_)
 ·
  simp only [BS, ne_eq] at c10
  refine seq ?_
  refine region ?_
  refine sv (yAsg rfl) ?_
  refine nil ?_
  show Code.wp _ _ _ _ _
  refine wp_ret (thenR ?_)
  exact retV (res1 rfl (congrArg Value.bool (show false = decide (a = b) from (decide_eq_false (fun e => by rw [e] at c10; exact c10 rfl)).symm))) hS.ext
 ·
  simp only [BS, ne_eq] at c10
  have hl : a.length = b.length := by omega
  refine skip ?_
  show Code.wp _ _ _ _ _
  refine seq ?_
  refine seq ?_
  refine region ?_
  refine sv (yAsg rfl) ?_
  refine nil ?_
  show Code.wp _ _ _ _ _
  refine block ?_
  refine loop (fun f w zz => ∃ (k : Nat), f 0 = .slice aa a.length ca ∧ f 1 = .slice ab b.length cb ∧ f 5 = .int .i64 (k : Int) ∧ StX [] w0 w [] ∧ (k ≤ a.length) ∧ (∀ i, i < k → a[i]? = b[i]?) ∧ zz = a.length - k) _ ⟨_, rfl, 0, rfl, rfl, rfl, hS, (Nat.zero_le _), (fun i hi => absurd hi (Nat.not_lt_zero _)), rfl⟩ ?_
  clear hS
  rintro f w _ ⟨k, h0, h1, h5, hS, hk, hA, rfl⟩
  refine seq ?_
  refine seq ?_
  refine region ?_
  refine sv (yMove h5) ?_
  refine sv (yMove h0) ?_
  refine sv (yLen rfl Tryz.underlying39) ?_
  refine sv (yLss rfl rfl) ?_
  refine nil ?_
  show Code.wp _ _ _ _ _
  refine cond rfl (fun c14 => ?_) (fun c14 => ?_)
  ·
   simp only [BS, ne_eq] at c14
   have hkl : k < a.length := by omega
   obtain ⟨bx, ox, cx, hax, hlx, hcx, hRx, -⟩ := sl_at ha (show a[k]? = some (a.getD k 0) by simp [hkl])
   obtain ⟨rfl, -⟩ := hRx
   obtain ⟨by0, oy, cy, hay, hly, hcy, hRy, -⟩ := sl_at hb (show b[k]? = some (b.getD k 0) by simp [show k < b.length by omega])
   obtain ⟨rfl, -⟩ := hRy
   refine skip ?_
   show Code.wp _ _ _ _ _
   refine seq ?_
   refine block ?_
   refine seq ?_
   refine region_draw mixed (by kernel_rfl) hS ?_
   refine qv (fun w hS => (yMove h0)) ?_
   refine qv (fun w hS => (yMove h5)) ?_
   refine qv (fun w hS => (yIxa rfl hax rfl Tryz.runUnderlying39 Tryz.sizeOf3 (by omega) (by omega))) ?_
   refine qv (fun w hS => (yLd rfl Tryz.isAgg3 (hcx.ext hS.ext).one)) ?_
   refine qv (fun w hS => (yMove h1)) ?_
   refine qv (fun w hS => (yMove h5)) ?_
   refine qv (fun w hS => (yIxa rfl hay rfl Tryz.runUnderlying39 Tryz.sizeOf3 (by omega) (by omega))) ?_
   refine qv (fun w hS => (yLd rfl Tryz.isAgg3 (hcy.ext hS.ext).one)) ?_
   refine qv (fun w hS => (yNeq rfl rfl)) ?_
   clear hS; refine qnil (fun w hS => ?_)
   show Code.wp _ _ _ _ _
   refine cond rfl (fun c25 => ?_) (fun c25 => ?_)
   ·
    simp only [BS, ne_eq] at c25
    refine seq ?_
    refine region ?_
    refine sv (yAsg rfl) ?_
    refine nil ?_
    show Code.wp _ _ _ _ _
    refine wp_ret (blockR (thenR (thenR (blockR (thenR ?_)))))
    exact retV (res1 rfl (congrArg Value.bool (show false = decide (a = b) from (decide_eq_false (fun e => by rw [e] at c25; exact c25 rfl)).symm))) hS.ext
   ·
    simp only [BS, ne_eq] at c25
    refine skip ?_
    show Code.wp _ _ _ _ _
    refine region ?_
    refine sv (yMove h5) ?_
    refine sv (yAdd rfl rfl ⟨by omega, by omega⟩) ?_
    refine sv (yAsg rfl) ?_
    refine nil ?_
    exact ⟨_, _, rfl, ⟨k + 1, h0, h1, rfl, hS, (by omega), (fun i hi => by
     by_cases e : i = k
     ·
      subst e
      rw [List.getElem?_eq_getElem hkl, List.getElem?_eq_getElem (show i < b.length by omega)]
      have e1 : a.getD i 0 = a[i] := by simp [hkl]
      have e2 : b.getD i 0 = b[i] := by simp [show i < b.length by omega]
      congr 1; omega
     ·
      exact hA i (by omega)), rfl⟩, by omega⟩
  ·
   simp only [BS, ne_eq] at c14
   obtain rfl : k = a.length := by omega
   refine exit ?_
   show Code.wp _ _ _ _ _
   refine seq ?_
   refine region ?_
   refine sv (yAsg rfl) ?_
   refine nil ?_
   show Code.wp _ _ _ _ _
   refine wp_ret ?_
   exact retV (res1 rfl (congrArg Value.bool (show true = decide (a = b) from (decide_eq_true (eq_of_get hl hA)).symm))) hS.ext
set_option maxHeartbeats 1000000 in
/-- barrage/barrageref02.Same -/
theorem c_Same {x y : Ser} {ca cb : List Value} {w0 : World} (hx : RSer w0 ca x) (hy : RSer w0 cb y) : CV Tryz.prog 23 #[.agg ca.toArray, .agg cb.toArray] w0 (.bool (decide (x = y))) := by
 obtain ⟨va, rfl, hfa, ha⟩ := hx
 obtain ⟨vb, rfl, hfb, hb⟩ := hy
 obtain ⟨aa, na, rfl, -⟩ := id ha
 obtain ⟨ab, nb, rfl, -⟩ := id hb
 refine enter Tryz.func23 rfl Tryz.ntmps23 rfl ?_
 have hS := St.start w0
 refine seq ?_
 refine region ?_
 refine sbox hS rfl rfl ?_; clear hS; intro b2 w hS
 refine sbox hS rfl rfl ?_; clear hS; intro b3 w hS
 refine sv (yAsg rfl) ?_
 refine nil ?_
 show Code.wp _ _ _ _ _
 refine seq ?_
 refine region ?_
 refine sv (fa41_0 rfl) ?_
 refine sv (yLdB rfl Tryz.isAgg3 (hS.at _) rfl) ?_
 refine sv (fa41_0 rfl) ?_
 refine sv (yLdB rfl Tryz.isAgg3 (hS.at _) rfl) ?_
 refine sv (yEql rfl rfl) ?_
 refine sv (yMove rfl) ?_
 refine sg rfl rfl rfl (fun g => (fa41_1 rfl)) (fun v11 g11 => ?_)
 refine sg rfl rfl rfl (fun g => (yLdB (g11.1 g) Tryz.isAgg39 (hS.at _) rfl)) (fun v12 g12 => ?_)
 refine sg rfl rfl rfl (fun g => (fa41_1 rfl)) (fun v13 g13 => ?_)
 refine sg rfl rfl rfl (fun g => (yLdB (g13.1 g) Tryz.isAgg39 (hS.at _) rfl)) (fun v14 g14 => ?_)
 refine sgc hS rfl rfl rfl Tryz.call22 (fun g => (.cons (g12.1 g) (.cons (g14.1 g) .nil))) (fun g => (c_Ints (ha.ext RInt.stays hS.ext) (hb.ext RInt.stays hS.ext))) ?_; clear hS; intro v15 w hS g15
 refine sv (yAnd rfl (fun hB => (g15.1 hB)) rfl) ?_
 refine sv (yAsg rfl) ?_
 refine nil ?_
 show Code.wp _ _ _ _ _
 refine wp_ret ?_
 exact retV (res1 rfl (congrArg Value.bool (by cases x; cases y; simp))) hS.ext
end Go.Proofs.YtgidbailiababaaGreatDoor

/- part Sx15 -/
namespace Go.Proofs.YtgidbailiababaaGreatDoor
open Go Bx
set_option maxHeartbeats 2000000 in
/-- barrage/barragelaw02.Example -/
theorem c_Example {w0 : World} : CE Tryz.prog 52 #[] w0 (fun u w' => ∃ bc bf, u = .agg [.int .i64 0, .slice none 0 0, .slice none 0 0, .int .i64 0, .int .i64 100, .int .i64 3, .slice (some ⟨bc, 0, none⟩) 2 2, .slice (some ⟨bf, 0, none⟩) 3 3, .int .i64 (-500), .int .i64 4000, .int .i64 800, .int .i64 1].toArray ∧ RSgt w' [.int .i64 0, .slice none 0 0, .slice none 0 0, .int .i64 0, .int .i64 100, .int .i64 3, .slice (some ⟨bc, 0, none⟩) 2 2, .slice (some ⟨bf, 0, none⟩) 3 3, .int .i64 (-500), .int .i64 4000, .int .i64 800, .int .i64 1] exS ∧ Ext w0 w') := by
 refine enter Tryz.func52 rfl Tryz.ntmps52 rfl ?_
 have hS := St.start w0
 refine seq ?_
 refine region ?_
 refine salloc hS Tryz.zeroValue29 rfl ?_; clear hS; intro b0 w hS
 refine nil ?_
 show Code.wp _ _ _ _ _
 refine seq ?_
 refine region ?_
 refine sv (yBuild Tryz.zeroValue57 rfl pl57 (.cons rfl rfl (.cons rfl rfl (.cons rfl rfl (.cons rfl rfl .nil)))) rfl) ?_
 refine sv (yBuild Tryz.zeroValue57 rfl pl57 (.cons rfl rfl (.cons rfl rfl (.cons rfl rfl .nil))) rfl) ?_
 refine sbslice hS Tryz.underlying26 Tryz.sizeOf57 rfl Tryz.zeroValue57 rfl (.cons rfl rfl (.cons rfl rfl .nil)) rfl ?_; clear hS; intro b3 w hS
 refine sbslice hS Tryz.underlying39 Tryz.sizeOf3 rfl Tryz.zeroValue3 rfl (.cons rfl rfl (.cons rfl rfl (.cons rfl rfl .nil))) rfl ?_; clear hS; intro b4 w hS
 refine sbslice hS Tryz.underlying39 Tryz.sizeOf3 rfl Tryz.zeroValue3 rfl (.cons rfl rfl (.cons rfl rfl (.cons rfl rfl .nil))) rfl ?_; clear hS; intro b5 w hS
 refine sbslice hS Tryz.underlying59 Tryz.sizeOf39 rfl Tryz.zeroValue39 rfl (.cons rfl rfl (.cons rfl rfl .nil)) rfl ?_; clear hS; intro b6 w hS
 refine sv (yBuild Tryz.zeroValue61 rfl pl61 (.cons rfl rfl (.cons rfl rfl (.cons rfl rfl .nil))) rfl) ?_
 refine sbslice hS Tryz.underlying39 Tryz.sizeOf3 rfl Tryz.zeroValue3 rfl (.cons rfl rfl (.cons rfl rfl .nil)) rfl ?_; clear hS; intro b8 w hS
 refine sbslice hS Tryz.underlying59 Tryz.sizeOf39 rfl Tryz.zeroValue39 rfl (.cons rfl rfl .nil) rfl ?_; clear hS; intro b9 w hS
 refine sv (yBuild Tryz.zeroValue61 rfl pl61 (.cons rfl rfl (.cons rfl rfl (.cons rfl rfl (.cons rfl rfl .nil)))) rfl) ?_
 refine sbslice hS Tryz.underlying39 Tryz.sizeOf3 rfl Tryz.zeroValue3 rfl (.cons rfl rfl (.cons rfl rfl (.cons rfl rfl .nil))) rfl ?_; clear hS; intro b11 w hS
 refine sbslice hS Tryz.underlying59 Tryz.sizeOf39 rfl Tryz.zeroValue39 rfl (.cons rfl rfl .nil) rfl ?_; clear hS; intro b12 w hS
 refine sv (yBuild Tryz.zeroValue61 rfl pl61 (.cons rfl rfl (.cons rfl rfl (.cons rfl rfl .nil))) rfl) ?_
 refine sbslice hS Tryz.underlying27 Tryz.sizeOf61 rfl Tryz.zeroValue61 rfl (.cons rfl rfl (.cons rfl rfl (.cons rfl rfl .nil))) rfl ?_; clear hS; intro b14 w hS
 refine sv (yBuild (r := [.int .i64 0, .slice none 0 0, .slice none 0 0, .int .i64 0, .int .i64 100, .int .i64 3, .slice (some ⟨b3, 0, none⟩) 2 2, .slice (some ⟨b14, 0, none⟩) 3 3, .int .i64 (-500), .int .i64 4000, .int .i64 800, .int .i64 1]) Tryz.zeroValue29 rfl pl29 (.cons rfl rfl (.cons rfl rfl (.cons rfl rfl (.cons rfl rfl (.cons rfl rfl (.cons rfl rfl (.cons rfl rfl (.cons rfl rfl .nil)))))))) (by kernel_rfl)) ?_
 refine sst hS rfl rfl Tryz.sizeOf29 rfl rfl rfl rfl ?_; clear hS; intro w hS
 refine nil ?_
 show Code.wp _ _ _ _ _
 refine wp_ret ?_
 refine retQ (resV1 rfl (rc rfl Tryz.isAgg29 Tryz.sizeOf29 (hS.at b0) rfl rfl)) ?_
 have hc := (show Sl w 4 RCtr (.slice (some ⟨b3, 0, none⟩) 2 2) ([exC1, exC2] : List Ctr) from sl_of_blk (hS.at b3) (css := [[.string ⟨#[109, 101, 116]⟩, .int .i64 2, .int .i64 100, .int .i64 50], [.string ⟨#[111, 99, 101, 97, 110]⟩, .int .i64 5, .int .i64 200, .int .i64 0]]) (l := ([exC1, exC2] : List Ctr)) rfl ⟨rfl, ⟨rfl, by decide, by decide, by decide, by decide⟩, rfl, ⟨rfl, by decide, by decide, by decide, by decide⟩, trivial⟩ (by decide) rfl)
 have hf := (show Sl w 4 RFct (.slice (some ⟨b14, 0, none⟩) 3 3) ([exF1, exF2, exF3] : List Fct) from sl_of_blk (hS.at b14) (css := [[.int .i64 0, .int .i64 88, .int .i64 100, .slice (some ⟨b6, 0, none⟩) 2 2], [.int .i64 1, .int .i64 90, .int .i64 101, .slice (some ⟨b9, 0, none⟩) 1 1], [.int .i64 0, .int .i64 94, .int .i64 100, .slice (some ⟨b12, 0, none⟩) 1 1]]) (l := ([exF1, exF2, exF3] : List Fct)) rfl ⟨rfl, ⟨_, rfl, by decide, by decide, by decide, (show Sl w 1 RRow (.slice (some ⟨b6, 0, none⟩) 2 2) ([[1000, 1500, 2000], [500, 700, 900]] : List (List Int)) from sl_of_blk (hS.at b6) (css := [[.slice (some ⟨b4, 0, none⟩) 3 3], [.slice (some ⟨b5, 0, none⟩) 3 3]]) (l := ([[1000, 1500, 2000], [500, 700, 900]] : List (List Int))) rfl ⟨rfl, ⟨_, rfl, (ints_sl (l := [1000, 1500, 2000]) (hS.at b4) (by decide) (by decide))⟩, rfl, ⟨_, rfl, (ints_sl (l := [500, 700, 900]) (hS.at b5) (by decide) (by decide))⟩, trivial⟩ (by decide) rfl)⟩, rfl, ⟨_, rfl, by decide, by decide, by decide, (show Sl w 1 RRow (.slice (some ⟨b9, 0, none⟩) 1 1) ([[2500, 2600]] : List (List Int)) from sl_of_blk (hS.at b9) (css := [[.slice (some ⟨b8, 0, none⟩) 2 2]]) (l := ([[2500, 2600]] : List (List Int))) rfl ⟨rfl, ⟨_, rfl, (ints_sl (l := [2500, 2600]) (hS.at b8) (by decide) (by decide))⟩, trivial⟩ (by decide) rfl)⟩, rfl, ⟨_, rfl, by decide, by decide, by decide, (show Sl w 1 RRow (.slice (some ⟨b12, 0, none⟩) 1 1) ([[1200, 1800, 2600]] : List (List Int)) from sl_of_blk (hS.at b12) (css := [[.slice (some ⟨b11, 0, none⟩) 3 3]]) (l := ([[1200, 1800, 2600]] : List (List Int))) rfl ⟨rfl, ⟨_, rfl, (ints_sl (l := [1200, 1800, 2600]) (hS.at b11) (by decide) (by decide))⟩, trivial⟩ (by decide) rfl)⟩, trivial⟩ (by decide) rfl)
 exact ⟨b3, b14, rfl, exs_rs hc hf, hS.ext⟩
end Go.Proofs.YtgidbailiababaaGreatDoor

/- part Sx16 -/
namespace Go.Proofs.YtgidbailiababaaGreatDoor
open Go Bx
set_option maxHeartbeats 4000000 in
/-- barrage/barragelaw02.Awake -/
theorem c_Awake {w0 : World} (hg : Glb w0) : CV Tryz.prog 19 #[] w0 (.bool true) := by
 refine enter Tryz.func19 rfl Tryz.ntmps19 rfl ?_
 have hS := St.start w0
 refine seq ?_
 refine region ?_
 refine sv (yAsg rfl) ?_
 refine nil ?_
 show Code.wp _ _ _ _ _
 refine seq ?_
 refine region ?_
 refine scall Tryz.call52 .nil c_Example ?_
 rintro _ w ⟨bc1, bf1, rfl, hT1, hE⟩; replace hS := hS.step hE; clear hE
 refine scall Tryz.call24 (.cons rfl (.cons rfl .nil)) (c_Possible (t := exS) (now := 95) hT1 (hg.ext hS.ext) ⟨by decide, by decide⟩) ?_
 rw [exs_pos]
 rintro _ w ⟨pv, is1, rfl, hi1, hM⟩; replace hS := hS.call1 hM; clear hM
 obtain ⟨ap, cp, rfl, -⟩ := hi1 w (fun it hi => hS.ok (packI is1) (by simp) it hi)
 refine sv (yMove rfl) ?_
 refine sv (yExt rfl rfl) ?_
 refine sv (yExt rfl rfl) ?_
 refine sv (yAsg rfl) ?_
 refine sv (yAsg rfl) ?_
 refine nil ?_
 show Code.wp _ _ _ _ _
 refine seq ?_
 refine region ?_
 refine scall Tryz.call52 .nil c_Example ?_
 rintro _ w ⟨bc2, bf2, rfl, hT2, hE⟩; replace hS := hS.step hE; clear hE
 refine scall Tryz.call33 (.cons rfl (.cons rfl (.cons rfl .nil))) (c_Ruled (t := exS) (th := 90) (now := 96) hT2 (hg.ext hS.ext) ⟨by decide, by decide⟩ ⟨by decide, by decide⟩) ?_
 rw [exs_rul]
 rintro _ w ⟨lv, is2, rfl, hi2, hM⟩; replace hS := hS.call1 hM; clear hM
 refine sv (yMove rfl) ?_
 refine sv (yExt rfl rfl) ?_
 refine sv (yExt rfl rfl) ?_
 refine sv (yAsg rfl) ?_
 refine sv (yAsg rfl) ?_
 refine nil ?_
 show Code.wp _ _ _ _ _
 refine seq ?_
 refine region ?_
 refine scall Tryz.call52 .nil c_Example ?_
 rintro _ w ⟨bc3, bf3, rfl, hT3, hE⟩; replace hS := hS.step hE; clear hE
 refine scall Tryz.call41 (.cons rfl (.cons rfl (.cons rfl .nil))) (c_Tube (t := exS) (fi := 3) (mi := 0) hT3 (hg.ext hS.ext) ⟨by decide, by decide⟩ ⟨by decide, by decide⟩) ?_
 rw [exs_tub]
 rintro _ w ⟨tv, is3, rfl, -, hM⟩; replace hS := hS.call1 hM; clear hM
 refine sv (yMove rfl) ?_
 refine sv (yExt rfl rfl) ?_
 refine sv (yExt rfl rfl) ?_
 refine sv (yAsg rfl) ?_
 refine sv (yAsg rfl) ?_
 refine nil ?_
 show Code.wp _ _ _ _ _
 refine seq ?_
 refine region ?_
 have hE0 := hS.ext
 have hp := hi1 w (fun it hi => hS.ok (packI is1) (by simp) it hi)
 have hlr := hi2 w (fun it hi => hS.ok (packI is2) (by simp) it hi)
 obtain ⟨bp, op, cs0, hap, -, hcp, hRp, -⟩ := sl_at (i := 0) (x := Ser.mk exS.frm [3500, 2700, 2800]) hp rfl
 have hRp0 := hRp
 obtain ⟨vp, rfl, -⟩ := hRp
 replace hS := St.start w
 refine sv (yMove rfl) ?_
 refine sv (yEql rfl rfl) ?_
 refine sv (yMove rfl) ?_
 refine ungo rfl rfl rfl ?_
 refine sv (yMove rfl) ?_
 refine ungo rfl rfl rfl ?_
 refine sv (yEql rfl rfl) ?_
 refine sv (yAnd rfl (fun hB => rfl) rfl) ?_
 refine sv (yMove rfl) ?_
 refine ungo rfl rfl rfl ?_
 refine sv (yMove rfl) ?_
 refine ungo rfl rfl rfl ?_
 refine sv (yEql rfl rfl) ?_
 refine sv (yAnd rfl (fun hB => rfl) rfl) ?_
 refine sv (yMove rfl) ?_
 refine ungo rfl rfl rfl ?_
 refine sv (yMove rfl) ?_
 refine ungo rfl rfl rfl ?_
 refine sv (yLen rfl Tryz.underlying45) ?_
 refine ungo rfl rfl rfl ?_
 refine sv (yEql rfl rfl) ?_
 refine sv (yAnd rfl (fun hB => rfl) rfl) ?_
 refine sv (yMove rfl) ?_
 refine ungo rfl rfl rfl ?_
 refine sv (yMove rfl) ?_
 refine ungo rfl rfl rfl ?_
 refine sv (yIxa rfl hap rfl Tryz.runUnderlying45 Tryz.sizeOf41 (by decide) (by decide)) ?_
 refine ungo rfl rfl rfl ?_
 refine sv (yLdA rfl Tryz.isAgg41 Tryz.sizeOf41 (hcp.ext hS.ext) rfl) ?_
 refine ungo rfl rfl rfl ?_
 refine sbslice hS Tryz.underlying39 Tryz.sizeOf3 rfl Tryz.zeroValue3 rfl (.cons rfl rfl (.cons rfl rfl (.cons rfl rfl .nil))) rfl ?_; clear hS; intro b41 w hS
 refine ungo rfl rfl rfl ?_
 refine sv (yBuild Tryz.zeroValue41 rfl pl41 (.cons rfl rfl (.cons rfl rfl .nil)) rfl) ?_
 refine ungo rfl rfl rfl ?_
 refine scall Tryz.call23 (.cons rfl (.cons rfl .nil)) (c_Same (ca := [.int .i64 exS.frm, vp]) (cb := [.int .i64 100, .slice (some ⟨b41, 0, none⟩) 3 3]) (RSer.stays _ _ _ _ hS.ext hRp0) (show RSer w _ ⟨100, [3500, 2700, 2800]⟩ from ⟨_, rfl, by decide, ints_sl (l := [3500, 2700, 2800]) (hS.at b41) (by decide) (by decide)⟩)) ?_
 rintro _ w ⟨rfl, hE⟩; replace hS := hS.step hE; clear hE
 refine sv (yAnd rfl (fun hB => rfl) rfl) ?_
 refine sv (yMove rfl) ?_
 refine ungo rfl rfl rfl ?_
 refine sv (yMove rfl) ?_
 refine ungo rfl rfl rfl ?_
 refine sbslice hS Tryz.underlying39 Tryz.sizeOf3 rfl Tryz.zeroValue3 rfl (.cons rfl rfl .nil) rfl ?_; clear hS; intro b47 w hS
 refine ungo rfl rfl rfl ?_
 refine scall Tryz.call22 (.cons rfl (.cons rfl .nil)) (c_Ints (hlr.ext RInt.stays hS.ext) (ints_sl (l := [0]) (hS.at b47) (by decide) (by decide))) ?_
 rintro _ w ⟨rfl, hE⟩; replace hS := hS.step hE; clear hE
 refine sv (yAnd rfl (fun hB => rfl) rfl) ?_
 refine sv (yAsg rfl) ?_
 refine nil ?_
 show Code.wp _ _ _ _ _
 refine wp_ret ?_
 exact retV (res1 rfl rfl) (hE0.trans hS.ext)
end Go.Proofs.YtgidbailiababaaGreatDoor

/- part S31 -/
namespace Bx
open Go Go.RowKit
section
variable {k n : Int} {t : Sgt}
end
def RSea (w : World) (cs : List Value) (x : Sea) : Prop := ∃ c1 v1 v2, cs = c1 ++ [v1, v2] ∧ RSgt w c1 x.task ∧ Sl w 1 RInt v1 x.surge ∧ Sl w 1 RU8 v2 x.parts
end Bx

/- part S32 -/
namespace Bx
open Go Go.RowKit
section
variable {x : Sea} {f : Fct} {m k : Nat} {now : Int}
end
theorem RSea.ext {w w' : World} {cs : List Value} {x : Sea} (h : RSea w cs x) (e : Ext w w') : RSea w' cs x := by
  obtain ⟨c1, v1, v2, rfl, h1, h2, h3⟩ := h
  exact ⟨c1, v1, v2, rfl, h1.ext e, h2.ext RInt.stays e, h3.ext RU8.stays e⟩
end Bx

/- part S34 -/
namespace Bx
open Go Go.RowKit
/-- The error of a gauge among the first k ones. -/
def rE (l : List Gauge) (g : Gauge) (k : Nat) : Int := if (checkG g).2.2 ≠ 0 then (checkG g).2.2 else if memB g.name ((l.take k).map (·.name)) = true then 5 else 0
section
variable {l : List Gauge} {g x : Gauge} {k i : Nat}
theorem rE_0 : rE l g 0 = (checkG g).2.2 := by
  unfold rE
  split
  · rfl
  next h => rw [if_neg (by simp [memB])]; exact (Decidable.not_not.1 h).symm
theorem rE_zero (h : rE l g k = 0) : (checkG g).2.2 = 0 ∧ memB g.name ((l.take k).map (·.name)) = false := by
  unfold rE at h
  split at h
  next h1 => exact absurd h h1
  next h1 =>
  split at h
  · simp at h
  next h2 => exact ⟨Decidable.not_not.1 h1, by simpa using h2⟩
theorem rE_yes (h : rE l g k = 0) (hx : l[k]? = some x) (he : x.name = g.name) : rE l g (k + 1) = 5 := by
  obtain ⟨h1, h2⟩ := rE_zero h
  unfold rE
  rw [if_neg (fun q => q h1), if_pos]
  rw [memB_iff, take_snoc hx, List.map_append]
  exact List.mem_append_right _ (by simp [he])
theorem rE_no (h : rE l g k = 0) (hx : l[k]? = some x) (he : ¬ x.name = g.name) : rE l g (k + 1) = 0 := by
  obtain ⟨h1, h2⟩ := rE_zero h
  unfold rE
  rw [if_neg (fun q => q h1), if_neg]
  rw [memB_iff, take_snoc hx, List.map_append]
  intro hm
  rcases List.mem_append.1 hm with hm | hm
  · rw [← memB_iff, h2] at hm; cases hm
  · simp at hm; exact he hm.symm
theorem rE_stop (h : rE l g k ≠ 0) (hk : k ≤ i) : rE l g i = rE l g k := by
  unfold rE at *
  split
  · rfl
  next h1 =>
  rw [if_neg h1] at h
  split at h
  next h2 =>
    rw [if_pos h2, if_pos]
    rw [memB_iff] at *
    obtain ⟨y, hy, he⟩ := List.mem_map.1 h2
    obtain ⟨j, hj, rfl⟩ := List.getElem_of_mem hy
    refine List.mem_map.2 ⟨_, ?_, he⟩
    rw [List.length_take] at hj
    rw [List.getElem_take]
    exact List.mem_of_getElem? (i := j) (by rw [List.getElem?_take, if_pos (by omega)]; exact List.getElem?_eq_getElem (by omega))
  next h2 => exact absurd rfl h
theorem gE_rE : gE l i = rE l (gau l i) i := rfl
end
theorem wrong_in (t : Sgt) : (!inB t.wrong 0 (max ((t.gauges.length : Int) - 1) 0)) = wrongB t := by
  rw [inB_not]
  unfold wrongB
  rw [Bool.eq_iff_iff, Bool.and_eq_true, outB_true, outB_true, decide_eq_true_eq]
  omega
theorem any_take_no {α : Type} {p : α → Bool} {l : List α} {k : Nat} {x : α} (hx : l[k]? = some x) (h : (l.take k).any p = false) (hp : p x = false) : (l.take (k + 1)).any p = false := by
  rw [take_snoc hx, List.any_append, h]; simp [hp]
theorem any_take_yes {α : Type} {p : α → Bool} {l : List α} {k i : Nat} {x : α} (hx : l[k]? = some x) (hk : k < i) (hp : p x = true) : (l.take i).any p = true :=
  List.any_eq_true.2 ⟨x, List.mem_of_getElem? (i := k) (by rw [List.getElem?_take, if_pos hk]; exact hx), hp⟩
theorem any_yes {α : Type} {p : α → Bool} {l : List α} {k : Nat} {x : α} (hx : l[k]? = some x) (hp : p x = true) : l.any p = true := List.any_eq_true.2 ⟨x, List.mem_of_getElem? hx, hp⟩
theorem flat_yes {p : Int → Bool} {ls : List (List Int)} {k j : Nat} {l : List Int} {x : Int} (h1 : ls[k]? = some l) (h2 : l[j]? = some x) (hp : p x = true) : ls.flatten.any p = true :=
  List.any_eq_true.2 ⟨x, List.mem_flatten.2 ⟨l, List.mem_of_getElem? h1, List.mem_of_getElem? h2⟩, hp⟩
theorem flat_no {p : Int → Bool} {ls : List (List Int)} {k : Nat} {l : List Int} (hx : ls[k]? = some l) (h : (ls.take k).flatten.any p = false) (hp : l.any p = false) : (ls.take (k + 1)).flatten.any p = false := by
  rw [take_snoc hx, List.flatten_append, List.any_append, h]; simpa using hp
section
variable {f : Fct} {k : Nat}
theorem longM_in (h : outB f.members.length 1 4 = true) : longM f = true := by unfold longM; rw [h]; rfl
theorem longM_one (h : (f.members.any fun l => outB l.length 1 200) = true) : longM f = true := by unfold longM; rw [h, Bool.or_true]
theorem longM_no (h1 : outB f.members.length 1 4 = false) (h2 : (f.members.any fun l => outB l.length 1 200) = false) : longM f = false := by unfold longM; rw [h1, h2]; rfl
end
theorem mem_at {f : Fct} {k : Nat} (h : k < f.members.length) : f.members[k]? = some (mem f k) := by simp [mem, h]
end Bx

/- part Sy1 -/
namespace Go.Proofs.YtgidbailiababaaGreatDoor
open Go Bx
set_option maxHeartbeats 1000000 in
/-- barrage/barrageref02.gauges -/
theorem c_rgausS {t : Sgt} {cs : List Value} {w0 : World} (h : RSgt w0 cs t) : CV Tryz.prog 60 #[.agg cs.toArray] w0 (.tuple #[.int .i64 (gausE t).1, .int .i64 (gausE t).2]) := by
 obtain ⟨cv, gv, tv, fv, rfl, hT, hG, hw64, hf64, hk64, hC, hF, hl64, hm64, hr64, hq64⟩ := id h
 obtain ⟨ag, cg, rfl, hgcap, hgmx, hgel⟩ := id hG
 obtain ⟨ak, ck, rfl, hkcap, hkmx, hkel⟩ := id hC
 obtain ⟨ae, ce, rfl, hecap, hemx, heel⟩ := id hF
 refine enter Tryz.func60 rfl Tryz.ntmps60 rfl ?_
 have hS := St.start w0
 refine seq ?_
 refine region ?_
 refine sbox hS rfl rfl ?_; clear hS; intro b1 w hS
 refine sv (yAsg rfl) ?_
 refine sv (yAsg rfl) ?_
 refine nil ?_
 show Code.wp _ _ _ _ _
 refine seq ?_
 refine seq ?_
 refine region ?_
 refine sv (fa29_1 rfl) ?_
 refine sv (yLdB rfl Tryz.isAgg25 (hS.at _) rfl) ?_
 refine sv (yLen rfl Tryz.underlying25) ?_
 refine sv (yGtr rfl rfl) ?_
 refine nil ?_
 show Code.wp _ _ _ _ _
 refine cond rfl (fun c12 => ?_) (fun c12 => ?_)
 ·
  simp only [BS, ne_eq] at c12
  refine seq ?_
  refine region ?_
  refine sv (yAsg rfl) ?_
  refine sv (yAsg rfl) ?_
  refine nil ?_
  show Code.wp _ _ _ _ _
  have hfin : gausE t = (0, 3) := by unfold gausE; rw [if_pos c12]
  refine wp_ret (thenR ?_)
  exact retV (res2 rfl (by rw [hfin]; rfl) (by rw [hfin]; rfl)) hS.ext
 ·
  simp only [BS, ne_eq] at c12
  refine skip ?_
  show Code.wp _ _ _ _ _
  refine seq ?_
  refine seq ?_
  refine region ?_
  refine sv (yAsg rfl) ?_
  refine nil ?_
  show Code.wp _ _ _ _ _
  refine block ?_
  refine loop (fun f w zz => ∃ (k : Nat), f 1 = .pointer (some ⟨b1, 0, none⟩) ∧ f 4 = .int .i64 (k : Int) ∧ StX [] w0 w [blk b1 [.int .i64 t.table.mean, cv, .slice ag t.gauges.length cg, .int .i64 t.wrong, .int .i64 t.frm, .int .i64 t.ticks, .slice ak t.ctrs.length ck, .slice ae t.fcs.length ce, .int .i64 t.least, .int .i64 t.most, .int .i64 t.rate, .int .i64 t.quorum] 29] ∧ (k ≤ t.gauges.length) ∧ (firstN (gE t.gauges) t.gauges.length 0 = firstN (gE t.gauges) (t.gauges.length - k) k) ∧ zz = t.gauges.length - k) _ ⟨_, rfl, 0, rfl, rfl, hS, (Nat.zero_le _), (rfl), rfl⟩ ?_
  clear hS
  rintro f w _ ⟨k, h1, h4, hS, hk, hI, rfl⟩
  refine seq ?_
  refine seq ?_
  refine region ?_
  refine sv (yMove h4) ?_
  refine sv (fa29_1 h1) ?_
  refine sv (yLdB rfl Tryz.isAgg25 (hS.at _) rfl) ?_
  refine sv (yLen rfl Tryz.underlying25) ?_
  refine sv (yLss rfl rfl) ?_
  refine nil ?_
  show Code.wp _ _ _ _ _
  refine cond rfl (fun c17 => ?_) (fun c17 => ?_)
  ·
   simp only [BS, ne_eq] at c17
   have hkl : k < t.gauges.length := by omega
   obtain ⟨bg, og, csg, hag, hlng, hcg, hRg, -⟩ := sl_at hG (gau_get (l := t.gauges) (i := k) (by omega))
   obtain ⟨dv, rv, rfl, hgn, -⟩ := id hRg
   refine skip ?_
   show Code.wp _ _ _ _ _
   refine seq ?_
   refine block ?_
   refine seq ?_
   refine region ?_
   refine sv (fa29_1 h1) ?_
   refine sv (yLdB rfl Tryz.isAgg25 (hS.at _) rfl) ?_
   refine sv (yMove h4) ?_
   refine sv (yIxa rfl hag rfl Tryz.runUnderlying25 Tryz.sizeOf68 (by omega) (by omega)) ?_
   refine sv (yLdA rfl Tryz.isAgg68 Tryz.sizeOf68 (hcg.ext hS.ext) hlng) ?_
   refine scall Tryz.call116 (.cons rfl .nil) (c_rCheckGauge (hRg.ext hS.ext)) ?_
   rintro _ w ⟨rfl, hE⟩; replace hS := hS.step hE; clear hE
   refine sv (yMove rfl) ?_
   refine sv (yExt rfl rfl) ?_
   refine sv (yExt rfl rfl) ?_
   refine sv (yExt rfl rfl) ?_
   refine sv (yAsg rfl) ?_
   refine sv (yAsg rfl) ?_
   refine sv (yAsg rfl) ?_
   refine nil ?_
   show Code.wp _ _ _ _ _
   refine seq ?_
   refine seq ?_
   refine region ?_
   refine sv (yAsg rfl) ?_
   refine nil ?_
   show Code.wp _ _ _ _ _
   refine block ?_
   refine loop (fun f w zz => ∃ (j : Nat) (E : Int), f 1 = .pointer (some ⟨b1, 0, none⟩) ∧ f 4 = .int .i64 (k : Int) ∧ f 7 = .int .i64 E ∧ f 8 = .int .i64 (j : Int) ∧ StX [] w0 w [blk b1 [.int .i64 t.table.mean, cv, .slice ag t.gauges.length cg, .int .i64 t.wrong, .int .i64 t.frm, .int .i64 t.ticks, .slice ak t.ctrs.length ck, .slice ae t.fcs.length ce, .int .i64 t.least, .int .i64 t.most, .int .i64 t.rate, .int .i64 t.quorum] 29] ∧ (j ≤ k) ∧ (E = rE t.gauges (gau t.gauges k) j) ∧ zz = k - j) _ ⟨_, rfl, 0, _, h1, h4, rfl, rfl, hS, (Nat.zero_le _), (rE_0.symm), rfl⟩ ?_
   clear hS
   rintro f w _ ⟨j, E, h1, h4, h7, h8, hS, hj, hE, rfl⟩
   refine seq ?_
   refine seq ?_
   refine region ?_
   refine sv (yMove h8) ?_
   refine sv (yMove h4) ?_
   refine sv (yLss rfl rfl) ?_
   refine sv (yMove rfl) ?_
   refine sg rfl rfl rfl (fun g => (yMove h7)) (fun v34 g34 => ?_)
   refine sg rfl rfl rfl (fun g => (yEql (g34.1 g) rfl)) (fun v35 g35 => ?_)
   refine sv (yAnd rfl (fun hB => (g35.1 hB)) rfl) ?_
   refine nil ?_
   show Code.wp _ _ _ _ _
   refine cond rfl (fun c36 => ?_) (fun c36 => ?_)
   ·
    simp only [BS, ne_eq] at c36
    have hjk : j < k := by omega
    have he0 : E = 0 := c36.2
    obtain ⟨bj, oj, csj, haj, hlnj, hcj, hRj, -⟩ := sl_at hG (gau_get (l := t.gauges) (i := j) (by omega))
    obtain ⟨dvj, rvj, rfl, -⟩ := hRj
    refine skip ?_
    show Code.wp _ _ _ _ _
    refine seq ?_
    refine block ?_
    refine seq ?_
    refine region_draw mixed (by kernel_rfl) hS ?_
    refine qv (fun w hS => (fa29_1 h1)) ?_
    refine qv (fun w hS => (yLdB rfl Tryz.isAgg25 (hS.at _) rfl)) ?_
    refine qv (fun w hS => (yMove h8)) ?_
    refine qv (fun w hS => (yIxa rfl haj rfl Tryz.runUnderlying25 Tryz.sizeOf68 (by omega) (by omega))) ?_
    refine qv (fun w hS => (fa68_0 rfl)) ?_
    refine qv (fun w hS => (yLd rfl Tryz.isAgg9 ((hcj.ext hS.ext).at (j := 0) rfl))) ?_
    refine qv (fun w hS => (fa29_1 h1)) ?_
    refine qv (fun w hS => (yLdB rfl Tryz.isAgg25 (hS.at _) rfl)) ?_
    refine qv (fun w hS => (yMove h4)) ?_
    refine qv (fun w hS => (yIxa rfl hag rfl Tryz.runUnderlying25 Tryz.sizeOf68 (by omega) (by omega))) ?_
    refine qv (fun w hS => (fa68_0 rfl)) ?_
    refine qv (fun w hS => (yLd rfl Tryz.isAgg9 ((hcg.ext hS.ext).at (j := 0) rfl))) ?_
    refine qv (fun w hS => (ySEq rfl rfl)) ?_
    clear hS; refine qnil (fun w hS => ?_)
    show Code.wp _ _ _ _ _
    refine cond rfl (fun c51 => ?_) (fun c51 => ?_)
    ·
     simp only [BS, ne_eq] at c51
     refine region ?_
     refine sv (yAsg rfl) ?_
     refine nil ?_
     show Code.wp _ _ _ _ _
     refine region ?_
     refine sv (yMove h8) ?_
     refine sv (yAdd rfl rfl ⟨by omega, by omega⟩) ?_
     refine sv (yAsg rfl) ?_
     refine nil ?_
     exact ⟨_, _, rfl, ⟨j + 1, _, h1, h4, rfl, rfl, hS, (by omega), ((rE_yes (hE.symm.trans he0) (gau_get (by omega)) c51).symm), rfl⟩, by omega⟩
    ·
     simp only [BS, ne_eq] at c51
     refine skip ?_
     show Code.wp _ _ _ _ _
     refine region ?_
     refine sv (yMove h8) ?_
     refine sv (yAdd rfl rfl ⟨by omega, by omega⟩) ?_
     refine sv (yAsg rfl) ?_
     refine nil ?_
     exact ⟨_, _, rfl, ⟨j + 1, _, h1, h4, h7, rfl, hS, (by omega), (by rw [rE_no (hE.symm.trans he0) (gau_get (by omega)) c51]; exact he0), rfl⟩, by omega⟩
   ·
    simp only [BS, ne_eq] at c36
    have hEi : E = rE t.gauges (gau t.gauges k) k := by
     by_cases h0 : E = 0
     ·
      obtain rfl : j = k := by omega
      exact hE
     ·
      rw [rE_stop (by rw [← hE]; exact h0) hj]; exact hE
    refine exit ?_
    show Code.wp _ _ _ _ _
    refine seq ?_
    refine region ?_
    refine sv (yMove h7) ?_
    refine sv (yNeq rfl rfl) ?_
    refine nil ?_
    show Code.wp _ _ _ _ _
    refine cond rfl (fun c53 => ?_) (fun c53 => ?_)
    ·
     simp only [BS, ne_eq] at c53
     refine seq ?_
     refine region ?_
     refine sv (yMove h4) ?_
     refine sv (yMove h7) ?_
     refine sv (yAsg rfl) ?_
     refine sv (yAsg rfl) ?_
     refine nil ?_
     show Code.wp _ _ _ _ _
     have hN : firstN (gE t.gauges) t.gauges.length 0 = ((k : Int), E) := by rw [hI, firstN_at (by omega) (by rw [gE_rE, ← hEi]; exact c53), gE_rE, ← hEi]
     have hfin : gausE t = ((k : Int), E) := by unfold gausE; rw [if_neg c12, if_pos (by rw [hN]; exact c53), hN]
     refine wp_ret (blockR (thenR (thenR (blockR (thenR ?_)))))
     exact retV (res2 rfl (by rw [hfin]; rfl) (by rw [hfin]; rfl)) hS.ext
    ·
     simp only [BS, ne_eq] at c53
     refine skip ?_
     show Code.wp _ _ _ _ _
     refine region ?_
     refine sv (yMove h4) ?_
     refine sv (yAdd rfl rfl ⟨by omega, by omega⟩) ?_
     refine sv (yAsg rfl) ?_
     refine nil ?_
     exact ⟨_, _, rfl, ⟨k + 1, h1, rfl, hS, (by omega), (by rw [hI]; exact firstN_go (by omega) (by rw [gE_rE]; exact (hEi.symm.trans (by omega)))), rfl⟩, by omega⟩
  ·
   simp only [BS, ne_eq] at c17
   obtain rfl : k = t.gauges.length := by omega
   have he : (firstN (gE t.gauges) t.gauges.length 0).2 = 0 := by rw [hI, Nat.sub_self]; rfl
   refine exit ?_
   show Code.wp _ _ _ _ _
   refine seq ?_
   refine seq ?_
   refine region ?_
   refine sv (fa29_2 h1) ?_
   refine sv (yLdB rfl Tryz.isAgg3 (hS.at _) rfl) ?_
   refine sv (fa29_1 h1) ?_
   refine sv (yLdB rfl Tryz.isAgg25 (hS.at _) rfl) ?_
   refine sv (yLen rfl Tryz.underlying25) ?_
   refine sv (ySub rfl rfl ⟨by omega, by omega⟩) ?_
   refine sv (yMax rfl rfl) ?_
   refine scall Tryz.call58 (.cons rfl (.cons rfl (.cons rfl .nil))) c_inS ?_
   rintro _ w ⟨rfl, hE⟩; replace hS := hS.step hE; clear hE
   refine sv (yNot rfl) ?_
   refine nil ?_
   show Code.wp _ _ _ _ _
   refine cond rfl (fun c64 => ?_) (fun c64 => ?_)
   ·
    rw [wrong_in] at c64
    refine seq ?_
    refine region ?_
    refine sv (yAsg rfl) ?_
    refine sv (yAsg rfl) ?_
    refine nil ?_
    show Code.wp _ _ _ _ _
    have hfin : gausE t = (0, 7) := by unfold gausE; rw [if_neg c12, if_neg (fun k => k he), if_pos c64]
    refine wp_ret (thenR ?_)
    exact retV (res2 rfl (by rw [hfin]; rfl) (by rw [hfin]; rfl)) hS.ext
   ·
    rw [wrong_in] at c64
    refine skip ?_
    show Code.wp _ _ _ _ _
    refine seq ?_
    refine region ?_
    refine sv (yAsg rfl) ?_
    refine sv (yAsg rfl) ?_
    refine nil ?_
    show Code.wp _ _ _ _ _
    have hfin : gausE t = (0, 0) := by unfold gausE; rw [if_neg c12, if_neg (fun k => k he), if_neg (by rw [c64]; decide)]
    refine wp_ret ?_
    exact retV (res2 rfl (by rw [hfin]; rfl) (by rw [hfin]; rfl)) hS.ext
set_option maxHeartbeats 1000000 in
/-- barrage/barrageref02.centre -/
theorem c_rcentS {t : Sgt} {cs : List Value} {i : Nat} {w0 : World} (h : RSgt w0 cs t) (hi : i < t.ctrs.length) : CV Tryz.prog 61 #[.agg cs.toArray, .int .i64 (i : Int)] w0 (.int .i64 (cE t.ctrs i)) := by
 obtain ⟨cv, gv, tv, fv, rfl, hT, hG, hw64, hf64, hk64, hC, hF, hl64, hm64, hr64, hq64⟩ := id h
 obtain ⟨ag, cg, rfl, hgcap, hgmx, hgel⟩ := id hG
 obtain ⟨ak, ck, rfl, hkcap, hkmx, hkel⟩ := id hC
 obtain ⟨ae, ce, rfl, hecap, hemx, heel⟩ := id hF
 obtain ⟨bx, ox, cx, hax, hlx, hcx, hRx, -⟩ := sl_at hC (ctr_get hi)
 obtain ⟨rfl, hnm, -⟩ := hRx
 refine enter Tryz.func61 rfl Tryz.ntmps61 rfl ?_
 have hS := St.start w0
 refine seq ?_
 refine region ?_
 refine sbox hS rfl rfl ?_; clear hS; intro b2 w hS
 refine sv (yAsg rfl) ?_
 refine nil ?_
 show Code.wp _ _ _ _ _
 refine seq ?_
 refine region ?_
 refine sv (fa29_5 rfl) ?_
 refine sv (yLdB rfl Tryz.isAgg26 (hS.at _) rfl) ?_
 refine sv (yMove rfl) ?_
 refine sv (yIxa rfl hax rfl Tryz.runUnderlying26 Tryz.sizeOf57 (by omega) (by omega)) ?_
 refine sv (yLdA rfl Tryz.isAgg57 Tryz.sizeOf57 (hcx.ext hS.ext) rfl) ?_
 refine salloc hS Tryz.zeroValue57 rfl ?_; clear hS; intro b5 w hS
 refine sst hS rfl rfl Tryz.sizeOf57 rfl rfl rfl rfl ?_; clear hS; intro w hS
 refine nil ?_
 show Code.wp _ _ _ _ _
 refine seq ?_
 refine seq ?_
 refine region ?_
 refine sv (fa57_0 rfl) ?_
 refine sv (yLdB rfl Tryz.isAgg9 (hS.at _) rfl) ?_
 refine scall Tryz.call117 (.cons rfl .nil) (c_rName hnm) ?_
 rintro _ w ⟨rfl, hE⟩; replace hS := hS.step hE; clear hE
 refine sv (yNot rfl) ?_
 refine nil ?_
 show Code.wp _ _ _ _ _
 refine cond rfl (fun c15 => ?_) (fun c15 => ?_)
 ·
  refine seq ?_
  refine region ?_
  refine sv (yAsg rfl) ?_
  refine nil ?_
  show Code.wp _ _ _ _ _
  refine wp_ret (thenR ?_)
  exact retV (res1 rfl (eqI (by unfold cE; rw [if_pos c15]))) hS.ext
 ·
  refine skip ?_
  show Code.wp _ _ _ _ _
  refine seq ?_
  refine seq ?_
  refine region ?_
  refine sv (yAsg rfl) ?_
  refine nil ?_
  show Code.wp _ _ _ _ _
  refine block ?_
  refine loop (fun f w zz => ∃ (k : Nat), f 1 = .int .i64 (i : Int) ∧ f 2 = .pointer (some ⟨b2, 0, none⟩) ∧ f 5 = .pointer (some ⟨b5, 0, none⟩) ∧ f 6 = .int .i64 (k : Int) ∧ StX [] w0 w [blk b5 (ctrC (ctr t.ctrs i)) 57, blk b2 [.int .i64 t.table.mean, cv, .slice ag t.gauges.length cg, .int .i64 t.wrong, .int .i64 t.frm, .int .i64 t.ticks, .slice ak t.ctrs.length ck, .slice ae t.fcs.length ce, .int .i64 t.least, .int .i64 t.most, .int .i64 t.rate, .int .i64 t.quorum] 29] ∧ (k ≤ i) ∧ (((t.ctrs.take k).any fun x => decide (x.name = (ctr t.ctrs i).name)) = false) ∧ zz = i - k) _ ⟨_, rfl, 0, rfl, rfl, rfl, rfl, hS, (Nat.zero_le _), (rfl), rfl⟩ ?_
  clear hS
  rintro f w _ ⟨k, h1, h2, h5, h6, hS, hk, hM, rfl⟩
  refine seq ?_
  refine seq ?_
  refine region ?_
  refine sv (yMove h6) ?_
  refine sv (yMove h1) ?_
  refine sv (yLss rfl rfl) ?_
  refine nil ?_
  show Code.wp _ _ _ _ _
  refine cond rfl (fun c18 => ?_) (fun c18 => ?_)
  ·
   simp only [BS, ne_eq] at c18
   have hkl : k < i := by omega
   obtain ⟨by2, oy, cy, hay, -, hcy, hRy, -⟩ := sl_at hC (ctr_get (l := t.ctrs) (i := k) (by omega))
   obtain ⟨rfl, -⟩ := hRy
   refine skip ?_
   show Code.wp _ _ _ _ _
   refine seq ?_
   refine block ?_
   refine seq ?_
   refine region_draw mixed (by kernel_rfl) hS ?_
   refine qv (fun w hS => (fa29_5 h2)) ?_
   refine qv (fun w hS => (yLdB rfl Tryz.isAgg26 (hS.at _) rfl)) ?_
   refine qv (fun w hS => (yMove h6)) ?_
   refine qv (fun w hS => (yIxa rfl hay rfl Tryz.runUnderlying26 Tryz.sizeOf57 (by omega) (by omega))) ?_
   refine qv (fun w hS => (fa57_0 rfl)) ?_
   refine qv (fun w hS => (yLd rfl Tryz.isAgg9 ((hcy.ext hS.ext).at (j := 0) rfl))) ?_
   refine qv (fun w hS => (fa57_0 h5)) ?_
   refine qv (fun w hS => (yLdB rfl Tryz.isAgg9 (hS.at _) rfl)) ?_
   refine qv (fun w hS => (ySEq rfl rfl)) ?_
   clear hS; refine qnil (fun w hS => ?_)
   show Code.wp _ _ _ _ _
   refine cond rfl (fun c29 => ?_) (fun c29 => ?_)
   ·
    simp only [BS, ne_eq] at c29
    refine seq ?_
    refine region ?_
    refine sv (yAsg rfl) ?_
    refine nil ?_
    show Code.wp _ _ _ _ _
    refine wp_ret (blockR (thenR (thenR (blockR (thenR ?_)))))
    exact retV (res1 rfl (eqI (by unfold cE; rw [if_neg (by rw [c15]; decide), if_pos (any_take_yes (ctr_get (show k < t.ctrs.length by omega)) hkl (decide_eq_true c29))]))) hS.ext
   ·
    simp only [BS, ne_eq] at c29
    refine skip ?_
    show Code.wp _ _ _ _ _
    refine region ?_
    refine sv (yMove h6) ?_
    refine sv (yAdd rfl rfl ⟨by omega, by omega⟩) ?_
    refine sv (yAsg rfl) ?_
    refine nil ?_
    exact ⟨_, _, rfl, ⟨k + 1, h1, h2, h5, rfl, hS, (by omega), (any_take_no (ctr_get (by omega)) hM (decide_eq_false c29)), rfl⟩, by omega⟩
  ·
   simp only [BS, ne_eq] at c18
   have hki : k = i := by omega
   rw [hki] at hM
   refine exit ?_
   show Code.wp _ _ _ _ _
   refine seq ?_
   refine seq ?_
   refine region ?_
   refine sv (fa57_1 h5) ?_
   refine sv (yLdB rfl Tryz.isAgg3 (hS.at _) rfl) ?_
   refine scall Tryz.call58 (.cons rfl (.cons rfl (.cons rfl .nil))) c_inS ?_
   rintro _ w ⟨rfl, hE⟩; replace hS := hS.step hE; clear hE
   refine sv (yNot rfl) ?_
   refine sv (yMove rfl) ?_
   refine sg rfl rfl rfl (fun g => (fa57_2 h5)) (fun v35 g35 => ?_)
   refine sg rfl rfl rfl (fun g => (yLdB (g35.1 g) Tryz.isAgg3 (hS.at _) rfl)) (fun v36 g36 => ?_)
   refine sgc hS rfl rfl rfl Tryz.call58 (fun g => (.cons (g36.1 g) (.cons rfl (.cons rfl .nil)))) (fun g => c_inS) ?_; clear hS; intro v37 w hS g37
   refine sg rfl rfl rfl (fun g => (yNot (g37.1 g))) (fun v38 g38 => ?_)
   refine sv (yOr rfl rfl (fun hB => (g38.1 hB))) ?_
   refine sv (yMove rfl) ?_
   refine sg rfl rfl rfl (fun g => (fa57_3 h5)) (fun v41 g41 => ?_)
   refine sg rfl rfl rfl (fun g => (yLdB (g41.1 g) Tryz.isAgg3 (hS.at _) rfl)) (fun v42 g42 => ?_)
   refine sgc hS rfl rfl rfl Tryz.call58 (fun g => (.cons (g42.1 g) (.cons rfl (.cons rfl .nil)))) (fun g => c_inS) ?_; clear hS; intro v43 w hS g43
   refine sg rfl rfl rfl (fun g => (yNot (g43.1 g))) (fun v44 g44 => ?_)
   refine sv (yOr rfl rfl (fun hB => (g44.1 hB))) ?_
   refine nil ?_
   show Code.wp _ _ _ _ _
   refine cond rfl (fun c45 => ?_) (fun c45 => ?_)
   ·
    rw [inB_not, inB_not, inB_not] at c45
    refine seq ?_
    refine region ?_
    refine sv (yAsg rfl) ?_
    refine nil ?_
    show Code.wp _ _ _ _ _
    refine wp_ret (thenR ?_)
    exact retV (res1 rfl (eqI (by unfold cE; rw [if_neg (by rw [c15]; decide), if_neg (by rw [hM]; decide), if_pos (show ctrB (ctr t.ctrs i) = true from c45)]))) hS.ext
   ·
    rw [inB_not, inB_not, inB_not] at c45
    refine skip ?_
    show Code.wp _ _ _ _ _
    refine seq ?_
    refine region ?_
    refine sv (yAsg rfl) ?_
    refine nil ?_
    show Code.wp _ _ _ _ _
    refine wp_ret ?_
    exact retV (res1 rfl (eqI (by unfold cE; rw [if_neg (by rw [c15]; decide), if_neg (by rw [hM]; decide), if_neg (by rw [show ctrB (ctr t.ctrs i) = false from c45]; decide)]))) hS.ext
/-- barrage/barrageref02.tick -/
theorem c_rtickS {a : Int} {w0 : World} : CV Tryz.prog 80 #[.int .i64 a] w0 (.bool (inB a 0 200000)) := by
 refine enter Tryz.func80 rfl Tryz.ntmps80 rfl ?_
 have hS := St.start w0
 refine seq ?_
 refine region ?_
 refine sv (yAsg rfl) ?_
 refine nil ?_
 show Code.wp _ _ _ _ _
 refine seq ?_
 refine region ?_
 refine sv (yMove rfl) ?_
 refine scall Tryz.call58 (.cons rfl (.cons rfl (.cons rfl .nil))) c_inS ?_
 rintro _ w ⟨rfl, hE⟩; replace hS := hS.step hE; clear hE
 refine sv (yAsg rfl) ?_
 refine nil ?_
 show Code.wp _ _ _ _ _
 refine wp_ret ?_
 exact retV (res1 rfl rfl) hS.ext
set_option maxHeartbeats 2000000 in
/-- barrage/barrageref02.forecast -/
theorem c_rforeS {t : Sgt} {cs : List Value} {i : Nat} {w0 : World} (h : RSgt w0 cs t) (hi : i < t.fcs.length) : CV Tryz.prog 62 #[.agg cs.toArray, .int .i64 (i : Int)] w0 (.int .i64 (fE t.ctrs.length t.fcs i)) := by
 obtain ⟨cv, gv, tv, fv, rfl, hT, hG, hw64, hf64, hk64, hC, hF, hl64, hm64, hr64, hq64⟩ := id h
 obtain ⟨ag, cg, rfl, hgcap, hgmx, hgel⟩ := id hG
 obtain ⟨ak, ck, rfl, hkcap, hkmx, hkel⟩ := id hC
 obtain ⟨ae, ce, rfl, hecap, hemx, heel⟩ := id hF
 obtain ⟨bx, ox, cx, hax, hlx, hcx, hRx, -⟩ := sl_at hF (fct_get hi)
 obtain ⟨mv, rfl, hf1, hf2, hf3, hM⟩ := id hRx
 obtain ⟨am, cm, rfl, hmcap, hmmx, hmel⟩ := id hM
 refine enter Tryz.func62 rfl Tryz.ntmps62 rfl ?_
 have hS := St.start w0
 refine seq ?_
 refine region ?_
 refine sbox hS rfl rfl ?_; clear hS; intro b2 w hS
 refine sv (yAsg rfl) ?_
 refine nil ?_
 show Code.wp _ _ _ _ _
 refine seq ?_
 refine region ?_
 refine sv (fa29_6 rfl) ?_
 refine sv (yLdB rfl Tryz.isAgg27 (hS.at _) rfl) ?_
 refine sv (yMove rfl) ?_
 refine sv (yIxa rfl hax rfl Tryz.runUnderlying27 Tryz.sizeOf61 (by omega) (by omega)) ?_
 refine sv (yLdA rfl Tryz.isAgg61 Tryz.sizeOf61 (hcx.ext hS.ext) rfl) ?_
 refine salloc hS Tryz.zeroValue61 rfl ?_; clear hS; intro b5 w hS
 refine sst hS rfl rfl Tryz.sizeOf61 rfl rfl rfl rfl ?_; clear hS; intro w hS
 refine nil ?_
 show Code.wp _ _ _ _ _
 refine seq ?_
 refine seq ?_
 refine region ?_
 refine sv (fa61_0 rfl) ?_
 refine sv (yLdB rfl Tryz.isAgg3 (hS.at _) rfl) ?_
 refine sv (fa29_5 rfl) ?_
 refine sv (yLdB rfl Tryz.isAgg26 (hS.at _) rfl) ?_
 refine sv (yLen rfl Tryz.underlying26) ?_
 refine sv (ySub rfl rfl ⟨by omega, by omega⟩) ?_
 refine scall Tryz.call58 (.cons rfl (.cons rfl (.cons rfl .nil))) c_inS ?_
 rintro _ w ⟨rfl, hE⟩; replace hS := hS.step hE; clear hE
 refine sv (yNot rfl) ?_
 refine nil ?_
 show Code.wp _ _ _ _ _
 refine cond rfl (fun c23 => ?_) (fun c23 => ?_)
 ·
  rw [inB_not] at c23
  refine seq ?_
  refine region ?_
  refine sv (yAsg rfl) ?_
  refine nil ?_
  show Code.wp _ _ _ _ _
  refine wp_ret (thenR ?_)
  exact retV (res1 rfl (eqI (by unfold fE; rw [if_pos c23]))) hS.ext
 ·
  rw [inB_not] at c23
  refine skip ?_
  show Code.wp _ _ _ _ _
  refine seq ?_
  refine seq ?_
  refine region ?_
  refine sv (fa61_1 rfl) ?_
  refine sv (yLdB rfl Tryz.isAgg3 (hS.at _) rfl) ?_
  refine scall Tryz.call80 (.cons rfl .nil) c_rtickS ?_
  rintro _ w ⟨rfl, hE⟩; replace hS := hS.step hE; clear hE
  refine sv (yNot rfl) ?_
  refine sv (yMove rfl) ?_
  refine sg rfl rfl rfl (fun g => (fa61_2 rfl)) (fun v29 g29 => ?_)
  refine sg rfl rfl rfl (fun g => (yLdB (g29.1 g) Tryz.isAgg3 (hS.at _) rfl)) (fun v30 g30 => ?_)
  refine sgc hS rfl rfl rfl Tryz.call80 (fun g => (.cons (g30.1 g) .nil)) (fun g => c_rtickS) ?_; clear hS; intro v31 w hS g31
  refine sg rfl rfl rfl (fun g => (yNot (g31.1 g))) (fun v32 g32 => ?_)
  refine sv (yOr rfl rfl (fun hB => (g32.1 hB))) ?_
  refine nil ?_
  show Code.wp _ _ _ _ _
  refine cond rfl (fun c33 => ?_) (fun c33 => ?_)
  ·
   rw [inB_not, inB_not] at c33
   refine seq ?_
   refine region ?_
   refine sv (yAsg rfl) ?_
   refine nil ?_
   show Code.wp _ _ _ _ _
   refine wp_ret (thenR ?_)
   exact retV (res1 rfl (eqI (by unfold fE; rw [if_neg (by rw [c23]; decide), if_pos c33]))) hS.ext
  ·
   rw [inB_not, inB_not] at c33
   refine skip ?_
   show Code.wp _ _ _ _ _
   refine seq ?_
   refine seq ?_
   refine region ?_
   refine sv (fa61_3 rfl) ?_
   refine sv (yLdB rfl Tryz.isAgg59 (hS.at _) rfl) ?_
   refine sv (yLen rfl Tryz.underlying59) ?_
   refine scall Tryz.call58 (.cons rfl (.cons rfl (.cons rfl .nil))) c_inS ?_
   rintro _ w ⟨rfl, hE⟩; replace hS := hS.step hE; clear hE
   refine sv (yNot rfl) ?_
   refine nil ?_
   show Code.wp _ _ _ _ _
   refine cond rfl (fun c38 => ?_) (fun c38 => ?_)
   ·
    rw [inB_not] at c38
    refine seq ?_
    refine region ?_
    refine sv (yAsg rfl) ?_
    refine nil ?_
    show Code.wp _ _ _ _ _
    refine wp_ret (thenR ?_)
    exact retV (res1 rfl (eqI (by unfold fE; rw [if_neg (by rw [c23]; decide), if_neg (by rw [c33]; decide), if_pos (longM_in c38)]))) hS.ext
   ·
    rw [inB_not] at c38
    refine skip ?_
    show Code.wp _ _ _ _ _
    refine seq ?_
    refine seq ?_
    refine region ?_
    refine sv (yAsg rfl) ?_
    refine nil ?_
    show Code.wp _ _ _ _ _
    refine block ?_
    refine loop (fun f w zz => ∃ (k : Nat), f 1 = .int .i64 (i : Int) ∧ f 2 = .pointer (some ⟨b2, 0, none⟩) ∧ f 5 = .pointer (some ⟨b5, 0, none⟩) ∧ f 6 = .int .i64 (k : Int) ∧ StX [] w0 w [blk b5 [.int .i64 (fct t.fcs i).centre, .int .i64 (fct t.fcs i).issued, .int .i64 (fct t.fcs i).frm, .slice am (fct t.fcs i).members.length cm] 61, blk b2 [.int .i64 t.table.mean, cv, .slice ag t.gauges.length cg, .int .i64 t.wrong, .int .i64 t.frm, .int .i64 t.ticks, .slice ak t.ctrs.length ck, .slice ae t.fcs.length ce, .int .i64 t.least, .int .i64 t.most, .int .i64 t.rate, .int .i64 t.quorum] 29] ∧ (k ≤ (fct t.fcs i).members.length) ∧ ((((fct t.fcs i).members.take k).any fun l => outB l.length 1 200) = false) ∧ zz = (fct t.fcs i).members.length - k) _ ⟨_, rfl, 0, rfl, rfl, rfl, rfl, hS, (Nat.zero_le _), (rfl), rfl⟩ ?_
    clear hS
    rintro f w _ ⟨k, h1, h2, h5, h6, hS, hk, hA, rfl⟩
    refine seq ?_
    refine seq ?_
    refine region ?_
    refine sv (yMove h6) ?_
    refine sv (fa61_3 h5) ?_
    refine sv (yLdB rfl Tryz.isAgg59 (hS.at _) rfl) ?_
    refine sv (yLen rfl Tryz.underlying59) ?_
    refine sv (yLss rfl rfl) ?_
    refine nil ?_
    show Code.wp _ _ _ _ _
    refine cond rfl (fun c43 => ?_) (fun c43 => ?_)
    ·
     simp only [BS, ne_eq] at c43
     have hkl : k < (fct t.fcs i).members.length := by omega
     obtain ⟨bp, op, csp, hap, -, hcp, hRp, -⟩ := sl_at hM (show (fct t.fcs i).members[k]? = some (mem (fct t.fcs i) k) by simp [mem, show k < (fct t.fcs i).members.length by omega])
     obtain ⟨vp, rfl, hvp⟩ := hRp
     obtain ⟨ap, np, rfl, hcapp, hmxp, -⟩ := id hvp
     refine skip ?_
     show Code.wp _ _ _ _ _
     refine seq ?_
     refine block ?_
     refine seq ?_
     refine region ?_
     refine sv (fa61_3 h5) ?_
     refine sv (yLdB rfl Tryz.isAgg59 (hS.at _) rfl) ?_
     refine sv (yMove h6) ?_
     refine sv (yIxa rfl hap rfl Tryz.runUnderlying59 Tryz.sizeOf39 (by omega) (by omega)) ?_
     refine sv (yLd rfl Tryz.isAgg39 (hcp.ext hS.ext).one) ?_
     refine sv (yLen rfl Tryz.underlying39) ?_
     refine scall Tryz.call58 (.cons rfl (.cons rfl (.cons rfl .nil))) c_inS ?_
     rintro _ w ⟨rfl, hE⟩; replace hS := hS.step hE; clear hE
     refine sv (yNot rfl) ?_
     refine nil ?_
     show Code.wp _ _ _ _ _
     refine cond rfl (fun c53 => ?_) (fun c53 => ?_)
     ·
      rw [inB_not] at c53
      refine seq ?_
      refine region ?_
      refine sv (yAsg rfl) ?_
      refine nil ?_
      show Code.wp _ _ _ _ _
      refine wp_ret (blockR (thenR (thenR (blockR (thenR ?_)))))
      exact retV (res1 rfl (eqI (by unfold fE; rw [if_neg (by rw [c23]; decide), if_neg (by rw [c33]; decide), if_pos (longM_one (any_yes (mem_at (show k < (fct t.fcs i).members.length by omega)) c53))]))) hS.ext
     ·
      rw [inB_not] at c53
      refine skip ?_
      show Code.wp _ _ _ _ _
      refine region ?_
      refine sv (yMove h6) ?_
      refine sv (yAdd rfl rfl ⟨by omega, by omega⟩) ?_
      refine sv (yAsg rfl) ?_
      refine nil ?_
      exact ⟨_, _, rfl, ⟨k + 1, h1, h2, h5, rfl, hS, (by omega), (any_take_no (mem_at (show k < (fct t.fcs i).members.length by omega)) hA c53), rfl⟩, by omega⟩
    ·
     simp only [BS, ne_eq] at c43
     have hkk : k = (fct t.fcs i).members.length := by omega
     rw [hkk, List.take_length] at hA
     refine exit ?_
     show Code.wp _ _ _ _ _
     refine seq ?_
     refine seq ?_
     have z1 := hA
     clear hA
     refine cutK (fun f => f 1 = .int .i64 (i : Int) ∧ f 2 = .pointer (some ⟨b2, 0, none⟩) ∧ f 5 = .pointer (some ⟨b5, 0, none⟩) ∧ True) ⟨h1, h2, h5, trivial⟩ ?_
     rintro f ⟨h1, h2, h5, -⟩
     refine region ?_
     refine sv (yAsg rfl) ?_
     refine nil ?_
     show Code.wp _ _ _ _ _
     refine block ?_
     refine loop (fun f w zz => ∃ (k : Nat), f 1 = .int .i64 (i : Int) ∧ f 2 = .pointer (some ⟨b2, 0, none⟩) ∧ f 5 = .pointer (some ⟨b5, 0, none⟩) ∧ f 7 = .int .i64 (k : Int) ∧ StX [] w0 w [blk b5 [.int .i64 (fct t.fcs i).centre, .int .i64 (fct t.fcs i).issued, .int .i64 (fct t.fcs i).frm, .slice am (fct t.fcs i).members.length cm] 61, blk b2 [.int .i64 t.table.mean, cv, .slice ag t.gauges.length cg, .int .i64 t.wrong, .int .i64 t.frm, .int .i64 t.ticks, .slice ak t.ctrs.length ck, .slice ae t.fcs.length ce, .int .i64 t.least, .int .i64 t.most, .int .i64 t.rate, .int .i64 t.quorum] 29] ∧ (k ≤ (fct t.fcs i).members.length) ∧ ((((fct t.fcs i).members.take k).any fun l => decide ((l.length : Int) ≠ ((fct t.fcs i).members.getD 0 []).length)) = false) ∧ zz = (fct t.fcs i).members.length - k) _ ⟨_, rfl, 0, h1, h2, h5, rfl, hS, (Nat.zero_le _), (rfl), rfl⟩ ?_
     clear hS
     rintro f w _ ⟨k, h1, h2, h5, h7, hS, hk, hA, rfl⟩
     refine seq ?_
     refine seq ?_
     refine region ?_
     refine sv (yMove h7) ?_
     refine sv (fa61_3 h5) ?_
     refine sv (yLdB rfl Tryz.isAgg59 (hS.at _) rfl) ?_
     refine sv (yLen rfl Tryz.underlying59) ?_
     refine sv (yLss rfl rfl) ?_
     refine nil ?_
     show Code.wp _ _ _ _ _
     refine cond rfl (fun c58 => ?_) (fun c58 => ?_)
     ·
      simp only [BS, ne_eq] at c58
      have hkl : k < (fct t.fcs i).members.length := by omega
      obtain ⟨bp, op, csp, hap, -, hcp, hRp, -⟩ := sl_at hM (show (fct t.fcs i).members[k]? = some (mem (fct t.fcs i) k) by simp [mem, show k < (fct t.fcs i).members.length by omega])
      obtain ⟨vp, rfl, hvp⟩ := hRp
      obtain ⟨ap, np, rfl, hcapp, hmxp, -⟩ := id hvp
      obtain ⟨bz, oz, csz, haz, -, hcz, hRz, -⟩ := sl_at hM (show (fct t.fcs i).members[0]? = some (mem (fct t.fcs i) 0) by simp [mem, show 0 < (fct t.fcs i).members.length by omega])
      obtain ⟨vz, rfl, hvz⟩ := hRz
      obtain ⟨az, nz, rfl, hcapz, hmxz, -⟩ := id hvz
      refine skip ?_
      show Code.wp _ _ _ _ _
      refine seq ?_
      refine block ?_
      refine seq ?_
      refine region_draw mixed (by kernel_rfl) hS ?_
      refine qv (fun w hS => (fa61_3 h5)) ?_
      refine qv (fun w hS => (yLdB rfl Tryz.isAgg59 (hS.at _) rfl)) ?_
      refine qv (fun w hS => (yMove h7)) ?_
      refine qv (fun w hS => (yIxa rfl hap rfl Tryz.runUnderlying59 Tryz.sizeOf39 (by omega) (by omega))) ?_
      refine qv (fun w hS => (yLd rfl Tryz.isAgg39 (hcp.ext hS.ext).one)) ?_
      refine qv (fun w hS => (yLen rfl Tryz.underlying39)) ?_
      refine qv (fun w hS => (fa61_3 h5)) ?_
      refine qv (fun w hS => (yLdB rfl Tryz.isAgg59 (hS.at _) rfl)) ?_
      refine qv (fun w hS => (yIxa (m := 0) rfl haz rfl Tryz.runUnderlying59 Tryz.sizeOf39 (by omega) (by omega))) ?_
      refine qv (fun w hS => (yLd rfl Tryz.isAgg39 (hcz.ext hS.ext).one)) ?_
      refine qv (fun w hS => (yLen rfl Tryz.underlying39)) ?_
      refine qv (fun w hS => (yNeq rfl rfl)) ?_
      clear hS; refine qnil (fun w hS => ?_)
      show Code.wp _ _ _ _ _
      refine cond rfl (fun c72 => ?_) (fun c72 => ?_)
      ·
       simp only [BS, ne_eq, ne_eq, Decidable.not_not] at c72
       refine seq ?_
       refine region ?_
       refine sv (yAsg rfl) ?_
       refine nil ?_
       show Code.wp _ _ _ _ _
       refine wp_ret (blockR (thenR (thenR (blockR (thenR ?_)))))
       exact retV (res1 rfl (eqI (by unfold fE; rw [if_neg (by rw [c23]; decide), if_neg (by rw [c33]; decide), if_neg (by rw [longM_no c38 z1]; decide), if_pos (show sameM (fct t.fcs i) = true from any_yes (mem_at (show k < (fct t.fcs i).members.length by omega)) (decide_eq_true c72))]))) hS.ext
      ·
       simp only [BS, ne_eq, ne_eq, Decidable.not_not] at c72
       refine skip ?_
       show Code.wp _ _ _ _ _
       refine region ?_
       refine sv (yMove h7) ?_
       refine sv (yAdd rfl rfl ⟨by omega, by omega⟩) ?_
       refine sv (yAsg rfl) ?_
       refine nil ?_
       exact ⟨_, _, rfl, ⟨k + 1, h1, h2, h5, rfl, hS, (by omega), (any_take_no (mem_at (show k < (fct t.fcs i).members.length by omega)) hA (decide_eq_false (fun hh => hh c72))), rfl⟩, by omega⟩
     ·
      simp only [BS, ne_eq] at c58
      have hkk : k = (fct t.fcs i).members.length := by omega
      rw [hkk, List.take_length] at hA
      refine exit ?_
      show Code.wp _ _ _ _ _
      refine seq ?_
      refine seq ?_
      have z2 := hA
      clear hA
      refine cutK (fun f => f 1 = .int .i64 (i : Int) ∧ f 2 = .pointer (some ⟨b2, 0, none⟩) ∧ f 5 = .pointer (some ⟨b5, 0, none⟩) ∧ True) ⟨h1, h2, h5, trivial⟩ ?_
      rintro f ⟨h1, h2, h5, -⟩
      refine region ?_
      refine sv (yAsg rfl) ?_
      refine nil ?_
      show Code.wp _ _ _ _ _
      refine block ?_
      refine loop (fun f w zz => ∃ (k : Nat), f 1 = .int .i64 (i : Int) ∧ f 2 = .pointer (some ⟨b2, 0, none⟩) ∧ f 5 = .pointer (some ⟨b5, 0, none⟩) ∧ f 8 = .int .i64 (k : Int) ∧ StX [] w0 w [blk b5 [.int .i64 (fct t.fcs i).centre, .int .i64 (fct t.fcs i).issued, .int .i64 (fct t.fcs i).frm, .slice am (fct t.fcs i).members.length cm] 61, blk b2 [.int .i64 t.table.mean, cv, .slice ag t.gauges.length cg, .int .i64 t.wrong, .int .i64 t.frm, .int .i64 t.ticks, .slice ak t.ctrs.length ck, .slice ae t.fcs.length ce, .int .i64 t.least, .int .i64 t.most, .int .i64 t.rate, .int .i64 t.quorum] 29] ∧ (k ≤ (fct t.fcs i).members.length) ∧ ((((fct t.fcs i).members.take k).flatten.any fun v => outB v (-10000) 10000) = false) ∧ zz = (fct t.fcs i).members.length - k) _ ⟨_, rfl, 0, h1, h2, h5, rfl, hS, (Nat.zero_le _), (rfl), rfl⟩ ?_
      clear hS
      rintro f w _ ⟨k, h1, h2, h5, h8, hS, hk, hA, rfl⟩
      refine seq ?_
      refine seq ?_
      refine region ?_
      refine sv (yMove h8) ?_
      refine sv (fa61_3 h5) ?_
      refine sv (yLdB rfl Tryz.isAgg59 (hS.at _) rfl) ?_
      refine sv (yLen rfl Tryz.underlying59) ?_
      refine sv (yLss rfl rfl) ?_
      refine nil ?_
      show Code.wp _ _ _ _ _
      refine cond rfl (fun c77 => ?_) (fun c77 => ?_)
      ·
       simp only [BS, ne_eq] at c77
       have hkl : k < (fct t.fcs i).members.length := by omega
       obtain ⟨bp, op, csp, hap, -, hcp, hRp, -⟩ := sl_at hM (show (fct t.fcs i).members[k]? = some (mem (fct t.fcs i) k) by simp [mem, show k < (fct t.fcs i).members.length by omega])
       obtain ⟨vp, rfl, hvp⟩ := hRp
       obtain ⟨ap, np, rfl, hcapp, hmxp, -⟩ := id hvp
       refine skip ?_
       show Code.wp _ _ _ _ _
       refine seq ?_
       refine block ?_
       refine seq ?_
       refine region ?_
       refine sv (yAsg rfl) ?_
       refine nil ?_
       show Code.wp _ _ _ _ _
       refine block ?_
       refine loop (fun f w zz => ∃ (j : Nat), f 1 = .int .i64 (i : Int) ∧ f 2 = .pointer (some ⟨b2, 0, none⟩) ∧ f 5 = .pointer (some ⟨b5, 0, none⟩) ∧ f 8 = .int .i64 (k : Int) ∧ f 9 = .int .i64 (j : Int) ∧ StX [] w0 w [blk b5 [.int .i64 (fct t.fcs i).centre, .int .i64 (fct t.fcs i).issued, .int .i64 (fct t.fcs i).frm, .slice am (fct t.fcs i).members.length cm] 61, blk b2 [.int .i64 t.table.mean, cv, .slice ag t.gauges.length cg, .int .i64 t.wrong, .int .i64 t.frm, .int .i64 t.ticks, .slice ak t.ctrs.length ck, .slice ae t.fcs.length ce, .int .i64 t.least, .int .i64 t.most, .int .i64 t.rate, .int .i64 t.quorum] 29] ∧ (j ≤ (mem (fct t.fcs i) k).length) ∧ ((((mem (fct t.fcs i) k).take j).any fun v => outB v (-10000) 10000) = false) ∧ zz = (mem (fct t.fcs i) k).length - j) _ ⟨_, rfl, 0, h1, h2, h5, h8, rfl, hS, (Nat.zero_le _), (rfl), rfl⟩ ?_
       clear hS
       rintro f w _ ⟨j, h1, h2, h5, h8, h9, hS, hj, hB, rfl⟩
       refine seq ?_
       refine seq ?_
       refine region ?_
       refine sv (yMove h9) ?_
       refine sv (fa61_3 h5) ?_
       refine sv (yLdB rfl Tryz.isAgg59 (hS.at _) rfl) ?_
       refine sv (yMove h8) ?_
       refine sv (yIxa rfl hap rfl Tryz.runUnderlying59 Tryz.sizeOf39 (by omega) (by omega)) ?_
       refine sv (yLd rfl Tryz.isAgg39 (hcp.ext hS.ext).one) ?_
       refine sv (yLen rfl Tryz.underlying39) ?_
       refine sv (yLss rfl rfl) ?_
       refine nil ?_
       show Code.wp _ _ _ _ _
       refine cond rfl (fun c87 => ?_) (fun c87 => ?_)
       ·
        simp only [BS, ne_eq] at c87
        have hjl : j < (mem (fct t.fcs i) k).length := by omega
        have hje : (mem (fct t.fcs i) k)[j]? = some ((mem (fct t.fcs i) k).getD j 0) := by simp [List.getD, hjl]
        obtain ⟨bq, oq, cq, haq, -, hcq, hRq, -⟩ := sl_at hvp hje
        obtain ⟨rfl, -⟩ := hRq
        refine skip ?_
        show Code.wp _ _ _ _ _
        refine seq ?_
        refine block ?_
        refine seq ?_
        refine region ?_
        refine sv (fa61_3 h5) ?_
        refine sv (yLdB rfl Tryz.isAgg59 (hS.at _) rfl) ?_
        refine sv (yMove h8) ?_
        refine sv (yIxa rfl hap rfl Tryz.runUnderlying59 Tryz.sizeOf39 (by omega) (by omega)) ?_
        refine sv (yLd rfl Tryz.isAgg39 (hcp.ext hS.ext).one) ?_
        refine sv (yMove h9) ?_
        refine sv (yIxa rfl haq rfl Tryz.runUnderlying39 Tryz.sizeOf3 (by omega) (by omega)) ?_
        refine sv (yLd rfl Tryz.isAgg3 (hcq.ext hS.ext).one) ?_
        refine scall Tryz.call58 (.cons rfl (.cons rfl (.cons rfl .nil))) c_inS ?_
        rintro _ w ⟨rfl, hE⟩; replace hS := hS.step hE; clear hE
        refine sv (yNot rfl) ?_
        refine nil ?_
        show Code.wp _ _ _ _ _
        refine cond rfl (fun c99 => ?_) (fun c99 => ?_)
        ·
         rw [inB_not] at c99
         refine seq ?_
         refine region ?_
         refine sv (yAsg rfl) ?_
         refine nil ?_
         show Code.wp _ _ _ _ _
         refine wp_ret (blockR (thenR (thenR (blockR (blockR (thenR (thenR (blockR (thenR ?_)))))))))
         exact retV (res1 rfl (eqI (by unfold fE; rw [if_neg (by rw [c23]; decide), if_neg (by rw [c33]; decide), if_neg (by rw [longM_no c38 z1]; decide), if_neg (by rw [show sameM (fct t.fcs i) = false from z2]; decide), if_pos (show farM (fct t.fcs i) = true from flat_yes (mem_at (show k < (fct t.fcs i).members.length by omega)) hje c99)]))) hS.ext
        ·
         rw [inB_not] at c99
         refine skip ?_
         show Code.wp _ _ _ _ _
         refine region ?_
         refine sv (yMove h9) ?_
         refine sv (yAdd rfl rfl ⟨by omega, by omega⟩) ?_
         refine sv (yAsg rfl) ?_
         refine nil ?_
         exact ⟨_, _, rfl, ⟨j + 1, h1, h2, h5, h8, rfl, hS, (by omega), (any_take_no hje hB c99), rfl⟩, by omega⟩
       ·
        simp only [BS, ne_eq] at c87
        have hjj : j = (mem (fct t.fcs i) k).length := by omega
        rw [hjj, List.take_length] at hB
        refine exit ?_
        show Code.wp _ _ _ _ _
        refine region ?_
        refine sv (yMove h8) ?_
        refine sv (yAdd rfl rfl ⟨by omega, by omega⟩) ?_
        refine sv (yAsg rfl) ?_
        refine nil ?_
        exact ⟨_, _, rfl, ⟨k + 1, h1, h2, h5, rfl, hS, (by omega), (flat_no (mem_at (show k < (fct t.fcs i).members.length by omega)) hA hB), rfl⟩, by omega⟩
      ·
       simp only [BS, ne_eq] at c77
       have hkk : k = (fct t.fcs i).members.length := by omega
       rw [hkk, List.take_length] at hA
       refine exit ?_
       show Code.wp _ _ _ _ _
       refine seq ?_
       refine seq ?_
       have z3 := hA
       clear hA
       refine cutK (fun f => f 1 = .int .i64 (i : Int) ∧ f 2 = .pointer (some ⟨b2, 0, none⟩) ∧ f 5 = .pointer (some ⟨b5, 0, none⟩) ∧ True) ⟨h1, h2, h5, trivial⟩ ?_
       rintro f ⟨h1, h2, h5, -⟩
       refine region ?_
       refine sv (yAsg rfl) ?_
       refine nil ?_
       show Code.wp _ _ _ _ _
       refine block ?_
       refine loop (fun f w zz => ∃ (k : Nat), f 1 = .int .i64 (i : Int) ∧ f 2 = .pointer (some ⟨b2, 0, none⟩) ∧ f 5 = .pointer (some ⟨b5, 0, none⟩) ∧ f 10 = .int .i64 (k : Int) ∧ StX [] w0 w [blk b5 [.int .i64 (fct t.fcs i).centre, .int .i64 (fct t.fcs i).issued, .int .i64 (fct t.fcs i).frm, .slice am (fct t.fcs i).members.length cm] 61, blk b2 [.int .i64 t.table.mean, cv, .slice ag t.gauges.length cg, .int .i64 t.wrong, .int .i64 t.frm, .int .i64 t.ticks, .slice ak t.ctrs.length ck, .slice ae t.fcs.length ce, .int .i64 t.least, .int .i64 t.most, .int .i64 t.rate, .int .i64 t.quorum] 29] ∧ (k ≤ i) ∧ (((t.fcs.take k).any fun x => decide (x.centre = (fct t.fcs i).centre) && decide (x.issued = (fct t.fcs i).issued)) = false) ∧ zz = i - k) _ ⟨_, rfl, 0, h1, h2, h5, rfl, hS, (Nat.zero_le _), (rfl), rfl⟩ ?_
       clear hS
       rintro f w _ ⟨k, h1, h2, h5, h10, hS, hk, hA, rfl⟩
       refine seq ?_
       refine seq ?_
       refine region ?_
       refine sv (yMove h10) ?_
       refine sv (yMove h1) ?_
       refine sv (yLss rfl rfl) ?_
       refine nil ?_
       show Code.wp _ _ _ _ _
       refine cond rfl (fun c102 => ?_) (fun c102 => ?_)
       ·
        simp only [BS, ne_eq] at c102
        have hkl : k < i := by omega
        obtain ⟨bq, oq, cq, haq, -, hcq, hRq, -⟩ := sl_at hF (fct_get (l := t.fcs) (i := k) (by omega))
        obtain ⟨mvq, rfl, -⟩ := hRq
        refine skip ?_
        show Code.wp _ _ _ _ _
        refine seq ?_
        refine block ?_
        refine seq ?_
        refine region_draw mixed (by kernel_rfl) hS ?_
        refine qv (fun w hS => (fa29_6 h2)) ?_
        refine qv (fun w hS => (yLdB rfl Tryz.isAgg27 (hS.at _) rfl)) ?_
        refine qv (fun w hS => (yMove h10)) ?_
        refine qv (fun w hS => (yIxa rfl haq rfl Tryz.runUnderlying27 Tryz.sizeOf61 (by omega) (by omega))) ?_
        refine qv (fun w hS => (fa61_0 rfl)) ?_
        refine qv (fun w hS => (yLd rfl Tryz.isAgg3 ((hcq.ext hS.ext).at (j := 0) rfl))) ?_
        refine qv (fun w hS => (fa61_0 h5)) ?_
        refine qv (fun w hS => (yLdB rfl Tryz.isAgg3 (hS.at _) rfl)) ?_
        refine qv (fun w hS => (yEql rfl rfl)) ?_
        refine qv (fun w hS => (yMove rfl)) ?_
        refine qg rfl rfl rfl (fun g w hS => (fa29_6 h2)) (fun v115 g115 => ?_)
        refine qg rfl rfl rfl (fun g w hS => (yLdB (g115.1 g) Tryz.isAgg27 (hS.at _) rfl)) (fun v116 g116 => ?_)
        refine qg rfl rfl rfl (fun g w hS => (yMove h10)) (fun v117 g117 => ?_)
        refine qg rfl rfl rfl (fun g w hS => (yIxa (g116.1 g) haq (g117.1 g) Tryz.runUnderlying27 Tryz.sizeOf61 (by omega) (by omega))) (fun v118 g118 => ?_)
        refine qg rfl rfl rfl (fun g w hS => (fa61_1 (g118.1 g))) (fun v119 g119 => ?_)
        refine qg rfl rfl rfl (fun g w hS => (yLd (g119.1 g) Tryz.isAgg3 ((hcq.ext hS.ext).at (j := 1) rfl))) (fun v120 g120 => ?_)
        refine qg rfl rfl rfl (fun g w hS => (fa61_1 h5)) (fun v121 g121 => ?_)
        refine qg rfl rfl rfl (fun g w hS => (yLdB (g121.1 g) Tryz.isAgg3 (hS.at _) rfl)) (fun v122 g122 => ?_)
        refine qg rfl rfl rfl (fun g w hS => (yEql (g120.1 g) (g122.1 g))) (fun v123 g123 => ?_)
        refine qv (fun w hS => (yAnd rfl (fun hB => (g123.1 hB)) rfl)) ?_
        clear hS; refine qnil (fun w hS => ?_)
        show Code.wp _ _ _ _ _
        refine cond rfl (fun c124 => ?_) (fun c124 => ?_)
        ·
         refine seq ?_
         refine region ?_
         refine sv (yAsg rfl) ?_
         refine nil ?_
         show Code.wp _ _ _ _ _
         refine wp_ret (blockR (thenR (thenR (blockR (thenR ?_)))))
         exact retV (res1 rfl (eqI (by unfold fE; rw [if_neg (by rw [c23]; decide), if_neg (by rw [c33]; decide), if_neg (by rw [longM_no c38 z1]; decide), if_neg (by rw [show sameM (fct t.fcs i) = false from z2]; decide), if_neg (by rw [show farM (fct t.fcs i) = false from z3]; decide), if_pos (show twiceF t.fcs i = true from any_take_yes (fct_get (show k < t.fcs.length by omega)) hkl c124)]))) hS.ext
        ·
         refine skip ?_
         show Code.wp _ _ _ _ _
         refine region ?_
         refine sv (yMove h10) ?_
         refine sv (yAdd rfl rfl ⟨by omega, by omega⟩) ?_
         refine sv (yAsg rfl) ?_
         refine nil ?_
         exact ⟨_, _, rfl, ⟨k + 1, h1, h2, h5, rfl, hS, (by omega), (any_take_no (fct_get (by omega)) hA c124), rfl⟩, by omega⟩
       ·
        simp only [BS, ne_eq] at c102
        have hki : k = i := by omega
        rw [hki] at hA
        refine exit ?_
        show Code.wp _ _ _ _ _
        refine seq ?_
        refine region ?_
        refine sv (yAsg rfl) ?_
        refine nil ?_
        show Code.wp _ _ _ _ _
        refine wp_ret ?_
        exact retV (res1 rfl (eqI (by unfold fE; rw [if_neg (by rw [c23]; decide), if_neg (by rw [c33]; decide), if_neg (by rw [longM_no c38 z1]; decide), if_neg (by rw [show sameM (fct t.fcs i) = false from z2]; decide), if_neg (by rw [show farM (fct t.fcs i) = false from z3]; decide), if_neg (by rw [show twiceF t.fcs i = false from hA]; decide)]))) hS.ext
end Go.Proofs.YtgidbailiababaaGreatDoor

/- part Sy2 -/
namespace Go.Proofs.YtgidbailiababaaGreatDoor
open Go Bx
set_option maxHeartbeats 1000000 in
/-- barrage/barrageref01.Levels -/
theorem c_rLevels {t : Table} {cs : List Value} {a n : Int} {w0 : World} (ht : RTable w0 cs t) (hia : I64 a) (hin : I64 n) : CE Tryz.prog 59 #[.agg cs.toArray, .int .i64 a, .int .i64 n] w0 (fun v w' => ∃ sv, v = .tuple #[sv, .int .i64 (levelsE t a n)] ∧ St w0 w' [rowI sv 74 2 (levelsF t a n).length ((levelsF t a n).flatMap spanC)]) := by
 obtain ⟨cv, rfl, hmean, hsl⟩ := id ht
 obtain ⟨aa, cap, rfl, hcap, hmx, hel⟩ := id hsl
 refine enter Tryz.func59 rfl Tryz.ntmps59 rfl ?_
 have hS := St.start w0
 refine seq ?_
 refine region ?_
 refine sbox hS rfl rfl ?_; clear hS; intro b3 w hS
 refine sv (yAsg rfl) ?_
 refine sv (yAsg rfl) ?_
 refine nil ?_
 show Code.wp _ _ _ _ _
 refine seq ?_
 refine region ?_
 refine sv (yLdBA rfl Tryz.isAgg24 Tryz.sizeOf24 (hS.at _) rfl rfl) ?_
 refine scall Tryz.call113 (.cons rfl .nil) (c_rCheck (ht.ext hS.ext)) ?_
 rintro _ w ⟨rfl, hE⟩; replace hS := hS.step hE; clear hE
 refine sv (yMove rfl) ?_
 refine sv (yExt rfl rfl) ?_
 refine sv (yExt rfl rfl) ?_
 refine sv (yAsg rfl) ?_
 refine sv (yAsg rfl) ?_
 refine nil ?_
 show Code.wp _ _ _ _ _
 refine seq ?_
 refine seq ?_
 refine region ?_
 refine sv (yMove rfl) ?_
 refine sv (yEql rfl rfl) ?_
 refine nil ?_
 show Code.wp _ _ _ _ _
 refine cond rfl (fun c18 => ?_) (fun c18 => ?_)
 ·
  simp only [BS, ne_eq] at c18
  have hE := levelsE_good (a := a) (n := n) c18
  refine region ?_
  refine sv (yMove rfl) ?_
  refine sv (yMove rfl) ?_
  refine scall Tryz.call114 (.cons rfl (.cons rfl .nil)) c_rsome ?_
  rintro _ w ⟨rfl, hE⟩; replace hS := hS.step hE; clear hE
  refine sv (yAsg rfl) ?_
  refine nil ?_
  show Code.wp _ _ _ _ _
  refine seq ?_
  refine seq ?_
  refine region ?_
  refine sv (yMove rfl) ?_
  refine sv (yNeq rfl rfl) ?_
  refine nil ?_
  show Code.wp _ _ _ _ _
  refine cond rfl (fun c23 => ?_) (fun c23 => ?_)
  ·
   simp only [BS, ne_eq] at c23
   refine seq ?_
   refine region ?_
   refine sv (yMove rfl) ?_
   refine sv (yAsg rfl) ?_
   refine sv (yAsg rfl) ?_
   refine nil ?_
   show Code.wp _ _ _ _ _
   refine wp_ret (thenR ?_)
   refine retQ (res2 rfl rfl rfl) ?_
   refine ⟨.slice none 0 0, by rw [hE]; rfl, ?_⟩
   rw [levelsF_bad (by rw [hE]; exact c23)]
   exact (hS.sub (List.nil_sublist _)).nilrow 74 2
  ·
   simp only [BS, ne_eq] at c23
   have hok := tableOk_of c18
   have hz := hE.trans c23
   obtain ⟨_, hz2, hz3⟩ := levelsE_zero hz
   obtain ⟨mm, rfl⟩ := Int.eq_ofNat_of_zero_le hz2.1
   refine skip ?_
   show Code.wp _ _ _ _ _
   refine seq ?_
   refine region ?_
   refine sv (yAsg rfl) ?_
   refine nil ?_
   show Code.wp _ _ _ _ _
   refine seq ?_
   refine seq ?_
   refine region ?_
   refine sv (yAsg rfl) ?_
   refine nil ?_
   show Code.wp _ _ _ _ _
   refine block ?_
   refine loop (fun f w zz => ∃ (k : Nat) (v : Value), f 1 = .int .i64 a ∧ f 2 = .int .i64 (mm : Int) ∧ f 3 = .pointer (some ⟨b3, 0, none⟩) ∧ f 10 = v ∧ f 11 = .int .i64 (k : Int) ∧ StX [] w0 w [rowI v 74 2 k ((lvlsL t a k).flatMap spanC), blk b3 [.int .i64 t.mean, .slice aa t.consts.length cap] 24] ∧ (k ≤ mm) ∧ zz = mm - k) _ ⟨_, rfl, 0, _, rfl, rfl, rfl, rfl, rfl, (hS.nilrow 74 2), (Nat.zero_le _), rfl⟩ ?_
   clear hS
   rintro f w _ ⟨k, v, h1, h2, h3, h10, h11, hS, hk, rfl⟩
   refine seq ?_
   refine seq ?_
   refine region ?_
   refine sv (yMove h11) ?_
   refine sv (yMove h2) ?_
   refine sv (yLss rfl rfl) ?_
   refine nil ?_
   show Code.wp _ _ _ _ _
   refine cond rfl (fun c27 => ?_) (fun c27 => ?_)
   ·
    simp only [BS, ne_eq] at c27
    have hab := hz3 (by omega)
    refine skip ?_
    show Code.wp _ _ _ _ _
    refine seq ?_
    refine block ?_
    refine region ?_
    refine sv (yMove h10) ?_
    refine sv (yLdBA h3 Tryz.isAgg24 Tryz.sizeOf24 (hS.at _) rfl rfl) ?_
    refine sv (yMove h1) ?_
    refine sv (yMove h11) ?_
    refine sv (yAdd rfl rfl ⟨by omega, by omega⟩) ?_
    refine scall Tryz.call115 (.cons rfl (.cons rfl .nil)) (c_rlevel (tick := a + k) (ht.ext hS.ext) hok ⟨by omega, by omega⟩) ?_
    rintro _ w ⟨rfl, hE⟩; replace hS := hS.step hE; clear hE
    refine sbslice hS Tryz.underlying86 Tryz.sizeOf74 rfl Tryz.zeroValue74 rfl (.cons rfl rfl .nil) rfl ?_; clear hS; intro b36 w hS
    refine sapp (bytes := 16) (size := 2) (v := v) (m := 1) hS rfl rfl Tryz.underlying86 ti74 rfl rfl rfl rfl (by decide) (blk_cells (hS.at _)) rfl rfl (by omega) (by omega) ?_; clear hS; intro v37 w hS
    refine sv (yAsg rfl) ?_
    refine nil ?_
    show Code.wp _ _ _ _ _
    refine region ?_
    refine sv (yMove h11) ?_
    refine sv (yAdd rfl rfl ⟨by omega, by omega⟩) ?_
    refine sv (yAsg rfl) ?_
    refine nil ?_
    exact ⟨_, _, rfl, ⟨k + 1, _, h1, h2, h3, rfl, rfl, (by rw [lvlsL_succ, List.flatMap_append]; exact hS.sub (.cons _ (List.Sublist.refl _))), (by omega), rfl⟩, by omega⟩
   ·
    simp only [BS, ne_eq] at c27
    obtain rfl : k = mm := by omega
    refine exit ?_
    show Code.wp _ _ _ _ _
    refine seq ?_
    refine region ?_
    refine sv (yMove h10) ?_
    refine sv (yAsg rfl) ?_
    refine sv (yAsg rfl) ?_
    refine nil ?_
    show Code.wp _ _ _ _ _
    refine wp_ret ?_
    refine retQ (res2 rfl rfl rfl) ?_
    refine ⟨v, by rw [hz]; rfl, ?_⟩
    rw [levelsF_good hz, show (lvlsL t a (k : Int).toNat).length = k from lvlsL_len t a k]
    exact hS.sub (.cons_cons _ (List.nil_sublist _))
 ·
  simp only [BS, ne_eq] at c18
  have hE := levelsE_bad (a := a) (n := n) c18
  refine skip ?_
  show Code.wp _ _ _ _ _
  refine seq ?_
  refine seq ?_
  refine region ?_
  refine sv (yMove rfl) ?_
  refine sv (yNeq rfl rfl) ?_
  refine nil ?_
  show Code.wp _ _ _ _ _
  refine cond rfl (fun c23 => ?_) (fun c23 => ?_)
  ·
   simp only [BS, ne_eq] at c23
   refine seq ?_
   refine region ?_
   refine sv (yMove rfl) ?_
   refine sv (yAsg rfl) ?_
   refine sv (yAsg rfl) ?_
   refine nil ?_
   show Code.wp _ _ _ _ _
   refine wp_ret (thenR ?_)
   refine retQ (res2 rfl rfl rfl) ?_
   refine ⟨.slice none 0 0, by rw [hE]; rfl, ?_⟩
   rw [levelsF_bad (by rw [hE]; exact c23)]
   exact (hS.sub (List.nil_sublist _)).nilrow 74 2
  ·
   simp only [BS, ne_eq] at c23
   exact absurd c23 c18
set_option maxHeartbeats 2000000 in
/-- barrage/barrageref02.Check -/
theorem c_rCheckS {t : Sgt} {cs : List Value} {w0 : World} (h : RSgt w0 cs t) : CV Tryz.prog 18 #[.agg cs.toArray] w0 (.tuple #[.int .i64 (checkS t).1, .int .i64 (checkS t).2.1, .int .i64 (checkS t).2.2]) := by
 obtain ⟨cv, gv, tv, fv, rfl, hT, hG, hw64, hf64, hk64, hC, hF, hl64, hm64, hr64, hq64⟩ := id h
 obtain ⟨ag, cg, rfl, hgcap, hgmx, hgel⟩ := id hG
 obtain ⟨ak, ck, rfl, hkcap, hkmx, hkel⟩ := id hC
 obtain ⟨ae, ce, rfl, hecap, hemx, heel⟩ := id hF
 refine enter Tryz.func18 rfl Tryz.ntmps18 rfl ?_
 have hS := St.start w0
 refine seq ?_
 refine region ?_
 refine sbox hS rfl rfl ?_; clear hS; intro b1 w hS
 refine sv (yAsg rfl) ?_
 refine sv (yAsg rfl) ?_
 refine sv (yAsg rfl) ?_
 refine nil ?_
 show Code.wp _ _ _ _ _
 refine seq ?_
 refine seq ?_
 refine region ?_
 refine sv (fa29_4 rfl) ?_
 refine sv (yLdB rfl Tryz.isAgg3 (hS.at _) rfl) ?_
 refine scall Tryz.call58 (.cons rfl (.cons rfl (.cons rfl .nil))) c_inS ?_
 rintro _ w ⟨rfl, hE⟩; replace hS := hS.step hE; clear hE
 refine sv (yNot rfl) ?_
 refine nil ?_
 show Code.wp _ _ _ _ _
 refine cond rfl (fun c15 => ?_) (fun c15 => ?_)
 ·
  rw [inB_not] at c15
  refine seq ?_
  refine region ?_
  refine sv (yAsg rfl) ?_
  refine sv (yAsg rfl) ?_
  refine sv (yAsg rfl) ?_
  refine nil ?_
  show Code.wp _ _ _ _ _
  have hfin : checkS t = (1, 0, 7) := by unfold checkS; rw [if_pos c15]
  refine wp_ret (thenR ?_)
  exact retV (res3 rfl (fstI hfin) (thd1I hfin) (thd2I hfin)) hS.ext
 ·
  rw [inB_not] at c15
  refine skip ?_
  show Code.wp _ _ _ _ _
  refine seq ?_
  refine region ?_
  refine sv (fa29_0 rfl) ?_
  refine sv (yLdBA rfl Tryz.isAgg24 Tryz.sizeOf24 (hS.at _) rfl rfl) ?_
  refine sv (fa29_3 rfl) ?_
  refine sv (yLdB rfl Tryz.isAgg3 (hS.at _) rfl) ?_
  refine sv (fa29_4 rfl) ?_
  refine sv (yLdB rfl Tryz.isAgg3 (hS.at _) rfl) ?_
  refine scall Tryz.call59 (.cons rfl (.cons rfl (.cons rfl .nil))) (c_rLevels (hT.ext hS.ext) hf64 hk64) ?_
  rintro _ w ⟨lvv, rfl, hM⟩; replace hS := (hS.call1 hM).sub (.cons _ (List.Sublist.refl _)); clear hM
  refine sv (yMove rfl) ?_
  refine sv (yExt rfl rfl) ?_
  refine sv (yExt rfl rfl) ?_
  refine sv (yAsg rfl) ?_
  refine sv (yAsg rfl) ?_
  refine nil ?_
  show Code.wp _ _ _ _ _
  refine seq ?_
  refine seq ?_
  refine region ?_
  refine sv (yMove rfl) ?_
  refine sv (yNeq rfl rfl) ?_
  refine nil ?_
  show Code.wp _ _ _ _ _
  refine cond rfl (fun c27 => ?_) (fun c27 => ?_)
  ·
   simp only [BS, ne_eq] at c27
   refine seq ?_
   refine region ?_
   refine sv (yMove rfl) ?_
   refine sv (yAsg rfl) ?_
   refine sv (yAsg rfl) ?_
   refine sv (yAsg rfl) ?_
   refine nil ?_
   show Code.wp _ _ _ _ _
   have hfin : checkS t = (1, 0, levelsE t.table t.frm t.ticks) := by unfold checkS; rw [if_neg (by rw [c15]; decide), if_pos c27]
   refine wp_ret (thenR ?_)
   exact retV (res3 rfl (fstI hfin) (thd1I hfin) (thd2I hfin)) hS.ext
  ·
   simp only [BS, ne_eq] at c27
   refine skip ?_
   show Code.wp _ _ _ _ _
   refine seq ?_
   refine region ?_
   refine sv (yLdBA rfl Tryz.isAgg29 Tryz.sizeOf29 (hS.at _) rfl rfl) ?_
   refine scall Tryz.call60 (.cons rfl .nil) (c_rgausS (h.ext hS.ext)) ?_
   rintro _ w ⟨rfl, hE⟩; replace hS := hS.step hE; clear hE
   refine sv (yMove rfl) ?_
   refine sv (yExt rfl rfl) ?_
   refine sv (yExt rfl rfl) ?_
   refine sv (yAsg rfl) ?_
   refine sv (yAsg rfl) ?_
   refine nil ?_
   show Code.wp _ _ _ _ _
   refine seq ?_
   refine seq ?_
   refine region ?_
   refine sv (yMove rfl) ?_
   refine sv (yNeq rfl rfl) ?_
   refine nil ?_
   show Code.wp _ _ _ _ _
   refine cond rfl (fun c35 => ?_) (fun c35 => ?_)
   ·
    simp only [BS, ne_eq] at c35
    refine seq ?_
    refine region ?_
    refine sv (yMove rfl) ?_
    refine sv (yMove rfl) ?_
    refine sv (yAsg rfl) ?_
    refine sv (yAsg rfl) ?_
    refine sv (yAsg rfl) ?_
    refine nil ?_
    show Code.wp _ _ _ _ _
    have hfin : checkS t = (2, gausE t) := by unfold checkS; rw [if_neg (by rw [c15]; decide), if_neg (fun k => k c27), if_pos c35]
    refine wp_ret (thenR ?_)
    exact retV (res3 rfl (fstI hfin) (thd1I hfin) (thd2I hfin)) hS.ext
   ·
    simp only [BS, ne_eq] at c35
    refine skip ?_
    show Code.wp _ _ _ _ _
    refine seq ?_
    refine seq ?_
    refine region ?_
    refine sv (fa29_5 rfl) ?_
    refine sv (yLdB rfl Tryz.isAgg26 (hS.at _) rfl) ?_
    refine sv (yLen rfl Tryz.underlying26) ?_
    refine sv (yGtr rfl rfl) ?_
    refine sv (yMove rfl) ?_
    refine sg rfl rfl rfl (fun g => (fa29_6 rfl)) (fun v43 g43 => ?_)
    refine sg rfl rfl rfl (fun g => (yLdB (g43.1 g) Tryz.isAgg27 (hS.at _) rfl)) (fun v44 g44 => ?_)
    refine sg rfl rfl rfl (fun g => (yLen (g44.1 g) Tryz.underlying27)) (fun v45 g45 => ?_)
    refine sg rfl rfl rfl (fun g => (yGtr (g45.1 g) rfl)) (fun v46 g46 => ?_)
    refine sv (yOr rfl rfl (fun hB => (g46.1 hB))) ?_
    refine nil ?_
    show Code.wp _ _ _ _ _
    refine cond rfl (fun c47 => ?_) (fun c47 => ?_)
    ·
     simp only [BS, ne_eq] at c47
     refine seq ?_
     refine region ?_
     refine sv (yAsg rfl) ?_
     refine sv (yAsg rfl) ?_
     refine sv (yAsg rfl) ?_
     refine nil ?_
     show Code.wp _ _ _ _ _
     have hfin : checkS t = (3, 0, 3) := by unfold checkS; rw [if_neg (by rw [c15]; decide), if_neg (fun k => k c27), if_neg (fun k => k c35), if_pos c47]
     refine wp_ret (thenR ?_)
     exact retV (res3 rfl (fstI hfin) (thd1I hfin) (thd2I hfin)) hS.ext
    ·
     simp only [BS, ne_eq] at c47
     refine skip ?_
     show Code.wp _ _ _ _ _
     refine seq ?_
     refine seq ?_
     refine region ?_
     refine sv (fa29_7 rfl) ?_
     refine sv (yLdB rfl Tryz.isAgg3 (hS.at _) rfl) ?_
     refine scall Tryz.call58 (.cons rfl (.cons rfl (.cons rfl .nil))) c_inS ?_
     rintro _ w ⟨rfl, hE⟩; replace hS := hS.step hE; clear hE
     refine sv (yNot rfl) ?_
     refine sv (yMove rfl) ?_
     refine sg rfl rfl rfl (fun g => (fa29_8 rfl)) (fun v53 g53 => ?_)
     refine sg rfl rfl rfl (fun g => (yLdB (g53.1 g) Tryz.isAgg3 (hS.at _) rfl)) (fun v54 g54 => ?_)
     refine sgc hS rfl rfl rfl Tryz.call58 (fun g => (.cons (g54.1 g) (.cons rfl (.cons rfl .nil)))) (fun g => c_inS) ?_; clear hS; intro v55 w hS g55
     refine sg rfl rfl rfl (fun g => (yNot (g55.1 g))) (fun v56 g56 => ?_)
     refine sv (yOr rfl rfl (fun hB => (g56.1 hB))) ?_
     refine sv (yMove rfl) ?_
     refine sg rfl rfl rfl (fun g => (fa29_9 rfl)) (fun v59 g59 => ?_)
     refine sg rfl rfl rfl (fun g => (yLdB (g59.1 g) Tryz.isAgg3 (hS.at _) rfl)) (fun v60 g60 => ?_)
     refine sgc hS rfl rfl rfl Tryz.call58 (fun g => (.cons (g60.1 g) (.cons rfl (.cons rfl .nil)))) (fun g => c_inS) ?_; clear hS; intro v61 w hS g61
     refine sg rfl rfl rfl (fun g => (yNot (g61.1 g))) (fun v62 g62 => ?_)
     refine sv (yOr rfl rfl (fun hB => (g62.1 hB))) ?_
     refine sv (yMove rfl) ?_
     refine sg rfl rfl rfl (fun g => (fa29_10 rfl)) (fun v65 g65 => ?_)
     refine sg rfl rfl rfl (fun g => (yLdB (g65.1 g) Tryz.isAgg3 (hS.at _) rfl)) (fun v66 g66 => ?_)
     refine sg rfl rfl rfl (fun g => (fa29_5 rfl)) (fun v67 g67 => ?_)
     refine sg rfl rfl rfl (fun g => (yLdB (g67.1 g) Tryz.isAgg26 (hS.at _) rfl)) (fun v68 g68 => ?_)
     refine sg rfl rfl rfl (fun g => (yLen (g68.1 g) Tryz.underlying26)) (fun v69 g69 => ?_)
     refine sgc hS rfl rfl rfl Tryz.call58 (fun g => (.cons (g66.1 g) (.cons rfl (.cons (g69.1 g) .nil)))) (fun g => c_inS) ?_; clear hS; intro v70 w hS g70
     refine sg rfl rfl rfl (fun g => (yNot (g70.1 g))) (fun v71 g71 => ?_)
     refine sv (yOr rfl rfl (fun hB => (g71.1 hB))) ?_
     refine nil ?_
     show Code.wp _ _ _ _ _
     refine cond rfl (fun c72 => ?_) (fun c72 => ?_)
     ·
      rw [inB_not, inB_not, inB_not, inB_not] at c72
      refine seq ?_
      refine region ?_
      refine sv (yAsg rfl) ?_
      refine sv (yAsg rfl) ?_
      refine sv (yAsg rfl) ?_
      refine nil ?_
      show Code.wp _ _ _ _ _
      have hfin : checkS t = (3, 0, 7) := by unfold checkS; rw [if_neg (by rw [c15]; decide), if_neg (fun k => k c27), if_neg (fun k => k c35), if_neg (fun k => k.elim c47.1 c47.2), if_pos (show numsS t = true from c72)]
      refine wp_ret (thenR ?_)
      exact retV (res3 rfl (fstI hfin) (thd1I hfin) (thd2I hfin)) hS.ext
     ·
      rw [inB_not, inB_not, inB_not, inB_not] at c72
      refine skip ?_
      show Code.wp _ _ _ _ _
      refine seq ?_
      refine seq ?_
      refine region ?_
      refine sv (yAsg rfl) ?_
      refine nil ?_
      show Code.wp _ _ _ _ _
      refine block ?_
      refine loop (fun f w zz => ∃ (k : Nat), f 1 = .pointer (some ⟨b1, 0, none⟩) ∧ f 8 = .int .i64 (k : Int) ∧ StX [] w0 w [blk b1 [.int .i64 t.table.mean, cv, .slice ag t.gauges.length cg, .int .i64 t.wrong, .int .i64 t.frm, .int .i64 t.ticks, .slice ak t.ctrs.length ck, .slice ae t.fcs.length ce, .int .i64 t.least, .int .i64 t.most, .int .i64 t.rate, .int .i64 t.quorum] 29] ∧ (k ≤ t.ctrs.length) ∧ (firstN (cE t.ctrs) t.ctrs.length 0 = firstN (cE t.ctrs) (t.ctrs.length - k) k) ∧ zz = t.ctrs.length - k) _ ⟨_, rfl, 0, rfl, rfl, hS, (Nat.zero_le _), (rfl), rfl⟩ ?_
      clear hS
      rintro f w _ ⟨k, h1, h8, hS, hk, hI, rfl⟩
      refine seq ?_
      refine seq ?_
      refine region ?_
      refine sv (yMove h8) ?_
      refine sv (fa29_5 h1) ?_
      refine sv (yLdB rfl Tryz.isAgg26 (hS.at _) rfl) ?_
      refine sv (yLen rfl Tryz.underlying26) ?_
      refine sv (yLss rfl rfl) ?_
      refine nil ?_
      show Code.wp _ _ _ _ _
      refine cond rfl (fun c77 => ?_) (fun c77 => ?_)
      ·
       simp only [BS, ne_eq] at c77
       refine skip ?_
       show Code.wp _ _ _ _ _
       refine seq ?_
       refine block ?_
       refine seq ?_
       refine region ?_
       refine sv (yLdBA h1 Tryz.isAgg29 Tryz.sizeOf29 (hS.at _) rfl rfl) ?_
       refine sv (yMove h8) ?_
       refine scall Tryz.call61 (.cons rfl (.cons rfl .nil)) (c_rcentS (h.ext hS.ext) (by omega)) ?_
       rintro _ w ⟨rfl, hE⟩; replace hS := hS.step hE; clear hE
       refine sv (yAsg rfl) ?_
       refine nil ?_
       show Code.wp _ _ _ _ _
       refine seq ?_
       refine region ?_
       refine sv (yMove rfl) ?_
       refine sv (yNeq rfl rfl) ?_
       refine nil ?_
       show Code.wp _ _ _ _ _
       refine cond rfl (fun c84 => ?_) (fun c84 => ?_)
       ·
        simp only [BS, ne_eq] at c84
        refine seq ?_
        refine region ?_
        refine sv (yMove h8) ?_
        refine sv (yMove rfl) ?_
        refine sv (yAsg rfl) ?_
        refine sv (yAsg rfl) ?_
        refine sv (yAsg rfl) ?_
        refine nil ?_
        show Code.wp _ _ _ _ _
        have hN : firstN (cE t.ctrs) t.ctrs.length 0 = ((k : Int), cE t.ctrs k) := by rw [hI, firstN_at (by omega) c84]
        have hfin : checkS t = (4, (k : Int), cE t.ctrs k) := by unfold checkS; rw [if_neg (by rw [c15]; decide), if_neg (fun k => k c27), if_neg (fun k => k c35), if_neg (fun k => k.elim c47.1 c47.2), if_neg (by rw [show numsS t = false from c72]; decide), if_pos (by rw [hN]; exact c84), hN]
        refine wp_ret (blockR (thenR (thenR (blockR (thenR ?_)))))
        exact retV (res3 rfl (fstI hfin) (thd1I hfin) (thd2I hfin)) hS.ext
       ·
        simp only [BS, ne_eq] at c84
        refine skip ?_
        show Code.wp _ _ _ _ _
        refine region ?_
        refine sv (yMove h8) ?_
        refine sv (yAdd rfl rfl ⟨by omega, by omega⟩) ?_
        refine sv (yAsg rfl) ?_
        refine nil ?_
        exact ⟨_, _, rfl, ⟨k + 1, h1, rfl, hS, (by omega), (by rw [hI]; exact firstN_go (by omega) c84), rfl⟩, by omega⟩
      ·
       simp only [BS, ne_eq] at c77
       obtain rfl : k = t.ctrs.length := by omega
       have hec : (firstN (cE t.ctrs) t.ctrs.length 0).2 = 0 := by rw [hI, Nat.sub_self]; rfl
       clear hI
       refine exit ?_
       show Code.wp _ _ _ _ _
       refine seq ?_
       refine seq ?_
       refine region ?_
       refine sv (yAsg rfl) ?_
       refine nil ?_
       show Code.wp _ _ _ _ _
       refine block ?_
       refine loop (fun f w zz => ∃ (k : Nat), f 1 = .pointer (some ⟨b1, 0, none⟩) ∧ f 10 = .int .i64 (k : Int) ∧ StX [] w0 w [blk b1 [.int .i64 t.table.mean, cv, .slice ag t.gauges.length cg, .int .i64 t.wrong, .int .i64 t.frm, .int .i64 t.ticks, .slice ak t.ctrs.length ck, .slice ae t.fcs.length ce, .int .i64 t.least, .int .i64 t.most, .int .i64 t.rate, .int .i64 t.quorum] 29] ∧ (k ≤ t.fcs.length) ∧ (firstN (fE t.ctrs.length t.fcs) t.fcs.length 0 = firstN (fE t.ctrs.length t.fcs) (t.fcs.length - k) k) ∧ zz = t.fcs.length - k) _ ⟨_, rfl, 0, h1, rfl, hS, (Nat.zero_le _), (rfl), rfl⟩ ?_
       clear hS
       rintro f w _ ⟨k, h1, h10, hS, hk, hI, rfl⟩
       refine seq ?_
       refine seq ?_
       refine region ?_
       refine sv (yMove h10) ?_
       refine sv (fa29_6 h1) ?_
       refine sv (yLdB rfl Tryz.isAgg27 (hS.at _) rfl) ?_
       refine sv (yLen rfl Tryz.underlying27) ?_
       refine sv (yLss rfl rfl) ?_
       refine nil ?_
       show Code.wp _ _ _ _ _
       refine cond rfl (fun c91 => ?_) (fun c91 => ?_)
       ·
        simp only [BS, ne_eq] at c91
        refine skip ?_
        show Code.wp _ _ _ _ _
        refine seq ?_
        refine block ?_
        refine seq ?_
        refine region ?_
        refine sv (yLdBA h1 Tryz.isAgg29 Tryz.sizeOf29 (hS.at _) rfl rfl) ?_
        refine sv (yMove h10) ?_
        refine scall Tryz.call62 (.cons rfl (.cons rfl .nil)) (c_rforeS (h.ext hS.ext) (by omega)) ?_
        rintro _ w ⟨rfl, hE⟩; replace hS := hS.step hE; clear hE
        refine sv (yAsg rfl) ?_
        refine nil ?_
        show Code.wp _ _ _ _ _
        refine seq ?_
        refine region ?_
        refine sv (yMove rfl) ?_
        refine sv (yNeq rfl rfl) ?_
        refine nil ?_
        show Code.wp _ _ _ _ _
        refine cond rfl (fun c98 => ?_) (fun c98 => ?_)
        ·
         simp only [BS, ne_eq] at c98
         refine seq ?_
         refine region ?_
         refine sv (yMove h10) ?_
         refine sv (yMove rfl) ?_
         refine sv (yAsg rfl) ?_
         refine sv (yAsg rfl) ?_
         refine sv (yAsg rfl) ?_
         refine nil ?_
         show Code.wp _ _ _ _ _
         have hN : firstN (fE t.ctrs.length t.fcs) t.fcs.length 0 = ((k : Int), fE t.ctrs.length t.fcs k) := by rw [hI, firstN_at (by omega) c98]
         have hfin : checkS t = (5, (k : Int), fE t.ctrs.length t.fcs k) := by unfold checkS; rw [if_neg (by rw [c15]; decide), if_neg (fun k => k c27), if_neg (fun k => k c35), if_neg (fun k => k.elim c47.1 c47.2), if_neg (by rw [show numsS t = false from c72]; decide), if_neg (fun k => k hec), if_pos (by rw [hN]; exact c98), hN]
         refine wp_ret (blockR (thenR (thenR (blockR (thenR ?_)))))
         exact retV (res3 rfl (fstI hfin) (thd1I hfin) (thd2I hfin)) hS.ext
        ·
         simp only [BS, ne_eq] at c98
         refine skip ?_
         show Code.wp _ _ _ _ _
         refine region ?_
         refine sv (yMove h10) ?_
         refine sv (yAdd rfl rfl ⟨by omega, by omega⟩) ?_
         refine sv (yAsg rfl) ?_
         refine nil ?_
         exact ⟨_, _, rfl, ⟨k + 1, h1, rfl, hS, (by omega), (by rw [hI]; exact firstN_go (by omega) c98), rfl⟩, by omega⟩
       ·
        simp only [BS, ne_eq] at c91
        obtain rfl : k = t.fcs.length := by omega
        have hef : (firstN (fE t.ctrs.length t.fcs) t.fcs.length 0).2 = 0 := by rw [hI, Nat.sub_self]; rfl
        refine exit ?_
        show Code.wp _ _ _ _ _
        refine seq ?_
        refine region ?_
        refine sv (yAsg rfl) ?_
        refine sv (yAsg rfl) ?_
        refine sv (yAsg rfl) ?_
        refine nil ?_
        show Code.wp _ _ _ _ _
        have hfin : checkS t = (0, 0, 0) := by unfold checkS; rw [if_neg (by rw [c15]; decide), if_neg (fun k => k c27), if_neg (fun k => k c35), if_neg (fun k => k.elim c47.1 c47.2), if_neg (by rw [show numsS t = false from c72]; decide), if_neg (fun k => k hec), if_neg (fun k => k hef)]
        refine wp_ret ?_
        exact retV (res3 rfl (fstI hfin) (thd1I hfin) (thd2I hfin)) hS.ext
end Go.Proofs.YtgidbailiababaaGreatDoor

/- part Sy10 -/
namespace Go.Proofs.YtgidbailiababaaGreatDoor
open Go Bx
set_option maxHeartbeats 2000000 in
/-- barrage/barragelaw02.SurgeChecks -/
theorem w_SurgeChecks {t : Sgt} {cs : List Value} {w0 : World} (hg : Glb w0) (h : RSgt w0 cs t) : CV Tryz.prog 3 #[.agg cs.toArray] w0 (.bool true) := by
 obtain ⟨cv, gv, tv, fv, rfl, hT, hG, hw64, hf64, hk64, hC, hF, hl64, hm64, hr64, hq64⟩ := id h
 obtain ⟨ag, cg, rfl, hgcap, hgmx, hgel⟩ := id hG
 obtain ⟨ak, ck, rfl, hkcap, hkmx, hkel⟩ := id hC
 obtain ⟨ae, ce, rfl, hecap, hemx, heel⟩ := id hF
 have hg1 := hg
 refine enter Tryz.func3 rfl Tryz.ntmps3 rfl ?_
 have hS := St.start w0
 refine seq ?_
 refine region ?_
 refine sbox hS rfl rfl ?_; clear hS; intro b1 w hS
 refine sv (yAsg rfl) ?_
 refine nil ?_
 show Code.wp _ _ _ _ _
 refine seq ?_
 refine region ?_
 refine sv (yLdBA rfl Tryz.isAgg29 Tryz.sizeOf29 (hS.at _) rfl rfl) ?_
 refine scall Tryz.call17 (.cons rfl .nil) (c_CheckS (h.ext hS.ext)) ?_
 rintro _ w ⟨rfl, hE⟩; replace hS := hS.step hE; clear hE
 refine sv (yMove rfl) ?_
 refine sv (yExt rfl rfl) ?_
 refine sv (yExt rfl rfl) ?_
 refine sv (yExt rfl rfl) ?_
 refine sv (yAsg rfl) ?_
 refine sv (yAsg rfl) ?_
 refine sv (yAsg rfl) ?_
 refine nil ?_
 show Code.wp _ _ _ _ _
 refine seq ?_
 refine region ?_
 refine sv (yLdBA rfl Tryz.isAgg29 Tryz.sizeOf29 (hS.at _) rfl rfl) ?_
 refine scall Tryz.call18 (.cons rfl .nil) (c_rCheckS (h.ext hS.ext)) ?_
 rintro _ w ⟨rfl, hE⟩; replace hS := hS.step hE; clear hE
 refine sv (yMove rfl) ?_
 refine sv (yExt rfl rfl) ?_
 refine sv (yExt rfl rfl) ?_
 refine sv (yExt rfl rfl) ?_
 refine sv (yAsg rfl) ?_
 refine sv (yAsg rfl) ?_
 refine sv (yAsg rfl) ?_
 refine nil ?_
 show Code.wp _ _ _ _ _
 refine seq ?_
 refine region ?_
 refine sv (yMove rfl) ?_
 refine sv (yMove rfl) ?_
 refine sv (yEql rfl rfl) ?_
 refine sv (yMove rfl) ?_
 refine sg rfl rfl rfl (fun g => (yMove rfl)) (fun v25 g25 => ?_)
 refine sg rfl rfl rfl (fun g => (yMove rfl)) (fun v26 g26 => ?_)
 refine sg rfl rfl rfl (fun g => (yEql (g25.1 g) (g26.1 g))) (fun v27 g27 => ?_)
 refine sv (yAnd rfl (fun hB => (g27.1 hB)) rfl) ?_
 refine sv (yMove rfl) ?_
 refine sg rfl rfl rfl (fun g => (yMove rfl)) (fun v30 g30 => ?_)
 refine sg rfl rfl rfl (fun g => (yMove rfl)) (fun v31 g31 => ?_)
 refine sg rfl rfl rfl (fun g => (yEql (g30.1 g) (g31.1 g))) (fun v32 g32 => ?_)
 refine sv (yAnd rfl (fun hB => (g32.1 hB)) rfl) ?_
 refine sv (yMove rfl) ?_
 refine sgc hS rfl rfl rfl Tryz.call19 (fun g => .nil) (fun g => (c_Awake (hg1.ext hS.ext))) ?_; clear hS; intro v35 w hS g35
 refine sv (yAnd rfl (fun hB => (g35.1 hB)) rfl) ?_
 refine sv (yAsg rfl) ?_
 refine nil ?_
 show Code.wp _ _ _ _ _
 refine wp_ret ?_
 exact retV (res1 rfl (congrArg Value.bool (by simp))) hS.ext
end Go.Proofs.YtgidbailiababaaGreatDoor

/- part RdF -/
namespace Go.Proofs.YtgidbailiababaaGreatDoor
open Go Bx
section
variable {H : Type} {enc : TypeId × Value → H} {w : World} {base : Nat} {spare : Nat → Bool} {held : Bool} {fuel : Nat} {cs : List Value} {x : DataW H × List MemPlace}
theorem rdF24 (h : DataW.trod enc Tryz.prog w base spare held fuel 24 cs = some x) (hW : WOk Tryz.prog 24 x.1) : ∃ n c0 c1, cs = [c0, c1] ∧ (∃ y, DataW.trod enc Tryz.prog w base spare held n 3 [c0] = some y ∧ WOk Tryz.prog 3 y.1) ∧ (∃ y, DataW.trod enc Tryz.prog w base spare held n 22 [c1] = some y ∧ WOk Tryz.prog 22 y.1) := by
  have z3 : Tryz.prog.cellsOf 3 = 1 := by kernel_rfl
  have z22 : Tryz.prog.cellsOf 22 = 1 := by kernel_rfl
  obtain ⟨hl, n, hf⟩ := rdw_fields Tryz.underlying24 h hW
  have hz : Tryz.prog.cellsOf 24 = 2 := by kernel_rfl
  rw [hz] at hl
  obtain ⟨c0, c1, rfl⟩ := two_of hl
  have f0 : ∃ y, DataW.trod enc Tryz.prog w base spare held n 3 ((List.drop 0 [c0, c1]).take (Tryz.prog.cellsOf 3)) = some y ∧ WOk Tryz.prog 3 y.1 := hf 0 _ rfl
  rw [z3] at f0
  have f1 : ∃ y, DataW.trod enc Tryz.prog w base spare held n 22 ((List.drop 1 [c0, c1]).take (Tryz.prog.cellsOf 22)) = some y ∧ WOk Tryz.prog 22 y.1 := hf 1 _ rfl
  rw [z22] at f1
  exact ⟨n, c0, c1, rfl, f0, f1⟩
theorem rdLen12_of {cs : List Value} (h : cs.length = 12) : ∃ c0 c1 c2 c3 c4 c5 c6 c7 c8 c9 c10 c11, cs = [c0, c1, c2, c3, c4, c5, c6, c7, c8, c9, c10, c11] := by
  match cs, h with
  | [c0, c1, c2, c3, c4, c5, c6, c7, c8, c9, c10, c11], _ => exact ⟨c0, c1, c2, c3, c4, c5, c6, c7, c8, c9, c10, c11, rfl⟩
theorem rdF29 (h : DataW.trod enc Tryz.prog w base spare held fuel 29 cs = some x) (hW : WOk Tryz.prog 29 x.1) : ∃ n c0 c1 c2 c3 c4 c5 c6 c7 c8 c9 c10 c11, cs = [c0, c1, c2, c3, c4, c5, c6, c7, c8, c9, c10, c11] ∧ (∃ y, DataW.trod enc Tryz.prog w base spare held n 24 [c0, c1] = some y ∧ WOk Tryz.prog 24 y.1) ∧ (∃ y, DataW.trod enc Tryz.prog w base spare held n 25 [c2] = some y ∧ WOk Tryz.prog 25 y.1) ∧ (∃ y, DataW.trod enc Tryz.prog w base spare held n 3 [c3] = some y ∧ WOk Tryz.prog 3 y.1) ∧ (∃ y, DataW.trod enc Tryz.prog w base spare held n 3 [c4] = some y ∧ WOk Tryz.prog 3 y.1) ∧ (∃ y, DataW.trod enc Tryz.prog w base spare held n 3 [c5] = some y ∧ WOk Tryz.prog 3 y.1) ∧ (∃ y, DataW.trod enc Tryz.prog w base spare held n 26 [c6] = some y ∧ WOk Tryz.prog 26 y.1) ∧ (∃ y, DataW.trod enc Tryz.prog w base spare held n 27 [c7] = some y ∧ WOk Tryz.prog 27 y.1) ∧ (∃ y, DataW.trod enc Tryz.prog w base spare held n 3 [c8] = some y ∧ WOk Tryz.prog 3 y.1) ∧ (∃ y, DataW.trod enc Tryz.prog w base spare held n 3 [c9] = some y ∧ WOk Tryz.prog 3 y.1) ∧ (∃ y, DataW.trod enc Tryz.prog w base spare held n 3 [c10] = some y ∧ WOk Tryz.prog 3 y.1) ∧ (∃ y, DataW.trod enc Tryz.prog w base spare held n 3 [c11] = some y ∧ WOk Tryz.prog 3 y.1) := by
  have z3 : Tryz.prog.cellsOf 3 = 1 := by kernel_rfl
  have z24 : Tryz.prog.cellsOf 24 = 2 := by kernel_rfl
  have z25 : Tryz.prog.cellsOf 25 = 1 := by kernel_rfl
  have z26 : Tryz.prog.cellsOf 26 = 1 := by kernel_rfl
  have z27 : Tryz.prog.cellsOf 27 = 1 := by kernel_rfl
  obtain ⟨hl, n, hf⟩ := rdw_fields Tryz.underlying29 h hW
  have hz : Tryz.prog.cellsOf 29 = 12 := by kernel_rfl
  rw [hz] at hl
  obtain ⟨c0, c1, c2, c3, c4, c5, c6, c7, c8, c9, c10, c11, rfl⟩ := rdLen12_of hl
  have f0 : ∃ y, DataW.trod enc Tryz.prog w base spare held n 24 ((List.drop 0 [c0, c1, c2, c3, c4, c5, c6, c7, c8, c9, c10, c11]).take (Tryz.prog.cellsOf 24)) = some y ∧ WOk Tryz.prog 24 y.1 := hf 0 _ rfl
  rw [z24] at f0
  have f1 : ∃ y, DataW.trod enc Tryz.prog w base spare held n 25 ((List.drop 2 [c0, c1, c2, c3, c4, c5, c6, c7, c8, c9, c10, c11]).take (Tryz.prog.cellsOf 25)) = some y ∧ WOk Tryz.prog 25 y.1 := hf 1 _ rfl
  rw [z25] at f1
  have f2 : ∃ y, DataW.trod enc Tryz.prog w base spare held n 3 ((List.drop 3 [c0, c1, c2, c3, c4, c5, c6, c7, c8, c9, c10, c11]).take (Tryz.prog.cellsOf 3)) = some y ∧ WOk Tryz.prog 3 y.1 := hf 2 _ rfl
  rw [z3] at f2
  have f3 : ∃ y, DataW.trod enc Tryz.prog w base spare held n 3 ((List.drop 4 [c0, c1, c2, c3, c4, c5, c6, c7, c8, c9, c10, c11]).take (Tryz.prog.cellsOf 3)) = some y ∧ WOk Tryz.prog 3 y.1 := hf 3 _ rfl
  rw [z3] at f3
  have f4 : ∃ y, DataW.trod enc Tryz.prog w base spare held n 3 ((List.drop 5 [c0, c1, c2, c3, c4, c5, c6, c7, c8, c9, c10, c11]).take (Tryz.prog.cellsOf 3)) = some y ∧ WOk Tryz.prog 3 y.1 := hf 4 _ rfl
  rw [z3] at f4
  have f5 : ∃ y, DataW.trod enc Tryz.prog w base spare held n 26 ((List.drop 6 [c0, c1, c2, c3, c4, c5, c6, c7, c8, c9, c10, c11]).take (Tryz.prog.cellsOf 26)) = some y ∧ WOk Tryz.prog 26 y.1 := hf 5 _ rfl
  rw [z26] at f5
  have f6 : ∃ y, DataW.trod enc Tryz.prog w base spare held n 27 ((List.drop 7 [c0, c1, c2, c3, c4, c5, c6, c7, c8, c9, c10, c11]).take (Tryz.prog.cellsOf 27)) = some y ∧ WOk Tryz.prog 27 y.1 := hf 6 _ rfl
  rw [z27] at f6
  have f7 : ∃ y, DataW.trod enc Tryz.prog w base spare held n 3 ((List.drop 8 [c0, c1, c2, c3, c4, c5, c6, c7, c8, c9, c10, c11]).take (Tryz.prog.cellsOf 3)) = some y ∧ WOk Tryz.prog 3 y.1 := hf 7 _ rfl
  rw [z3] at f7
  have f8 : ∃ y, DataW.trod enc Tryz.prog w base spare held n 3 ((List.drop 9 [c0, c1, c2, c3, c4, c5, c6, c7, c8, c9, c10, c11]).take (Tryz.prog.cellsOf 3)) = some y ∧ WOk Tryz.prog 3 y.1 := hf 8 _ rfl
  rw [z3] at f8
  have f9 : ∃ y, DataW.trod enc Tryz.prog w base spare held n 3 ((List.drop 10 [c0, c1, c2, c3, c4, c5, c6, c7, c8, c9, c10, c11]).take (Tryz.prog.cellsOf 3)) = some y ∧ WOk Tryz.prog 3 y.1 := hf 9 _ rfl
  rw [z3] at f9
  have f10 : ∃ y, DataW.trod enc Tryz.prog w base spare held n 3 ((List.drop 11 [c0, c1, c2, c3, c4, c5, c6, c7, c8, c9, c10, c11]).take (Tryz.prog.cellsOf 3)) = some y ∧ WOk Tryz.prog 3 y.1 := hf 10 _ rfl
  rw [z3] at f10
  exact ⟨n, c0, c1, c2, c3, c4, c5, c6, c7, c8, c9, c10, c11, rfl, f0, f1, f2, f3, f4, f5, f6, f7, f8, f9, f10⟩
theorem rdF57 (h : DataW.trod enc Tryz.prog w base spare held fuel 57 cs = some x) (hW : WOk Tryz.prog 57 x.1) : ∃ n c0 c1 c2 c3, cs = [c0, c1, c2, c3] ∧ (∃ y, DataW.trod enc Tryz.prog w base spare held n 9 [c0] = some y ∧ WOk Tryz.prog 9 y.1) ∧ (∃ y, DataW.trod enc Tryz.prog w base spare held n 3 [c1] = some y ∧ WOk Tryz.prog 3 y.1) ∧ (∃ y, DataW.trod enc Tryz.prog w base spare held n 3 [c2] = some y ∧ WOk Tryz.prog 3 y.1) ∧ (∃ y, DataW.trod enc Tryz.prog w base spare held n 3 [c3] = some y ∧ WOk Tryz.prog 3 y.1) := by
  have z3 : Tryz.prog.cellsOf 3 = 1 := by kernel_rfl
  have z9 : Tryz.prog.cellsOf 9 = 1 := by kernel_rfl
  obtain ⟨hl, n, hf⟩ := rdw_fields Tryz.underlying57 h hW
  have hz : Tryz.prog.cellsOf 57 = 4 := by kernel_rfl
  rw [hz] at hl
  obtain ⟨c0, c1, c2, c3, rfl⟩ := four_of hl
  have f0 : ∃ y, DataW.trod enc Tryz.prog w base spare held n 9 ((List.drop 0 [c0, c1, c2, c3]).take (Tryz.prog.cellsOf 9)) = some y ∧ WOk Tryz.prog 9 y.1 := hf 0 _ rfl
  rw [z9] at f0
  have f1 : ∃ y, DataW.trod enc Tryz.prog w base spare held n 3 ((List.drop 1 [c0, c1, c2, c3]).take (Tryz.prog.cellsOf 3)) = some y ∧ WOk Tryz.prog 3 y.1 := hf 1 _ rfl
  rw [z3] at f1
  have f2 : ∃ y, DataW.trod enc Tryz.prog w base spare held n 3 ((List.drop 2 [c0, c1, c2, c3]).take (Tryz.prog.cellsOf 3)) = some y ∧ WOk Tryz.prog 3 y.1 := hf 2 _ rfl
  rw [z3] at f2
  have f3 : ∃ y, DataW.trod enc Tryz.prog w base spare held n 3 ((List.drop 3 [c0, c1, c2, c3]).take (Tryz.prog.cellsOf 3)) = some y ∧ WOk Tryz.prog 3 y.1 := hf 3 _ rfl
  rw [z3] at f3
  exact ⟨n, c0, c1, c2, c3, rfl, f0, f1, f2, f3⟩
theorem rdF61 (h : DataW.trod enc Tryz.prog w base spare held fuel 61 cs = some x) (hW : WOk Tryz.prog 61 x.1) : ∃ n c0 c1 c2 c3, cs = [c0, c1, c2, c3] ∧ (∃ y, DataW.trod enc Tryz.prog w base spare held n 3 [c0] = some y ∧ WOk Tryz.prog 3 y.1) ∧ (∃ y, DataW.trod enc Tryz.prog w base spare held n 3 [c1] = some y ∧ WOk Tryz.prog 3 y.1) ∧ (∃ y, DataW.trod enc Tryz.prog w base spare held n 3 [c2] = some y ∧ WOk Tryz.prog 3 y.1) ∧ (∃ y, DataW.trod enc Tryz.prog w base spare held n 59 [c3] = some y ∧ WOk Tryz.prog 59 y.1) := by
  have z3 : Tryz.prog.cellsOf 3 = 1 := by kernel_rfl
  have z59 : Tryz.prog.cellsOf 59 = 1 := by kernel_rfl
  obtain ⟨hl, n, hf⟩ := rdw_fields Tryz.underlying61 h hW
  have hz : Tryz.prog.cellsOf 61 = 4 := by kernel_rfl
  rw [hz] at hl
  obtain ⟨c0, c1, c2, c3, rfl⟩ := four_of hl
  have f0 : ∃ y, DataW.trod enc Tryz.prog w base spare held n 3 ((List.drop 0 [c0, c1, c2, c3]).take (Tryz.prog.cellsOf 3)) = some y ∧ WOk Tryz.prog 3 y.1 := hf 0 _ rfl
  rw [z3] at f0
  have f1 : ∃ y, DataW.trod enc Tryz.prog w base spare held n 3 ((List.drop 1 [c0, c1, c2, c3]).take (Tryz.prog.cellsOf 3)) = some y ∧ WOk Tryz.prog 3 y.1 := hf 1 _ rfl
  rw [z3] at f1
  have f2 : ∃ y, DataW.trod enc Tryz.prog w base spare held n 3 ((List.drop 2 [c0, c1, c2, c3]).take (Tryz.prog.cellsOf 3)) = some y ∧ WOk Tryz.prog 3 y.1 := hf 2 _ rfl
  rw [z3] at f2
  have f3 : ∃ y, DataW.trod enc Tryz.prog w base spare held n 59 ((List.drop 3 [c0, c1, c2, c3]).take (Tryz.prog.cellsOf 59)) = some y ∧ WOk Tryz.prog 59 y.1 := hf 3 _ rfl
  rw [z59] at f3
  exact ⟨n, c0, c1, c2, c3, rfl, f0, f1, f2, f3⟩
theorem rdF68 (h : DataW.trod enc Tryz.prog w base spare held fuel 68 cs = some x) (hW : WOk Tryz.prog 68 x.1) : ∃ n c0 c1 c2 c3 c4, cs = [c0, c1, c2, c3, c4] ∧ (∃ y, DataW.trod enc Tryz.prog w base spare held n 9 [c0] = some y ∧ WOk Tryz.prog 9 y.1) ∧ (∃ y, DataW.trod enc Tryz.prog w base spare held n 3 [c1] = some y ∧ WOk Tryz.prog 3 y.1) ∧ (∃ y, DataW.trod enc Tryz.prog w base spare held n 3 [c2] = some y ∧ WOk Tryz.prog 3 y.1) ∧ (∃ y, DataW.trod enc Tryz.prog w base spare held n 65 [c3] = some y ∧ WOk Tryz.prog 65 y.1) ∧ (∃ y, DataW.trod enc Tryz.prog w base spare held n 66 [c4] = some y ∧ WOk Tryz.prog 66 y.1) := by
  have z3 : Tryz.prog.cellsOf 3 = 1 := by kernel_rfl
  have z9 : Tryz.prog.cellsOf 9 = 1 := by kernel_rfl
  have z65 : Tryz.prog.cellsOf 65 = 1 := by kernel_rfl
  have z66 : Tryz.prog.cellsOf 66 = 1 := by kernel_rfl
  obtain ⟨hl, n, hf⟩ := rdw_fields Tryz.underlying68 h hW
  have hz : Tryz.prog.cellsOf 68 = 5 := by kernel_rfl
  rw [hz] at hl
  obtain ⟨c0, c1, c2, c3, c4, rfl⟩ := five_of hl
  have f0 : ∃ y, DataW.trod enc Tryz.prog w base spare held n 9 ((List.drop 0 [c0, c1, c2, c3, c4]).take (Tryz.prog.cellsOf 9)) = some y ∧ WOk Tryz.prog 9 y.1 := hf 0 _ rfl
  rw [z9] at f0
  have f1 : ∃ y, DataW.trod enc Tryz.prog w base spare held n 3 ((List.drop 1 [c0, c1, c2, c3, c4]).take (Tryz.prog.cellsOf 3)) = some y ∧ WOk Tryz.prog 3 y.1 := hf 1 _ rfl
  rw [z3] at f1
  have f2 : ∃ y, DataW.trod enc Tryz.prog w base spare held n 3 ((List.drop 2 [c0, c1, c2, c3, c4]).take (Tryz.prog.cellsOf 3)) = some y ∧ WOk Tryz.prog 3 y.1 := hf 2 _ rfl
  rw [z3] at f2
  have f3 : ∃ y, DataW.trod enc Tryz.prog w base spare held n 65 ((List.drop 3 [c0, c1, c2, c3, c4]).take (Tryz.prog.cellsOf 65)) = some y ∧ WOk Tryz.prog 65 y.1 := hf 3 _ rfl
  rw [z65] at f3
  have f4 : ∃ y, DataW.trod enc Tryz.prog w base spare held n 66 ((List.drop 4 [c0, c1, c2, c3, c4]).take (Tryz.prog.cellsOf 66)) = some y ∧ WOk Tryz.prog 66 y.1 := hf 4 _ rfl
  rw [z66] at f4
  exact ⟨n, c0, c1, c2, c3, c4, rfl, f0, f1, f2, f3, f4⟩
theorem rdF70 (h : DataW.trod enc Tryz.prog w base spare held fuel 70 cs = some x) (hW : WOk Tryz.prog 70 x.1) : ∃ n c0 c1, cs = [c0, c1] ∧ (∃ y, DataW.trod enc Tryz.prog w base spare held n 3 [c0] = some y ∧ WOk Tryz.prog 3 y.1) ∧ (∃ y, DataW.trod enc Tryz.prog w base spare held n 3 [c1] = some y ∧ WOk Tryz.prog 3 y.1) := by
  have z3 : Tryz.prog.cellsOf 3 = 1 := by kernel_rfl
  obtain ⟨hl, n, hf⟩ := rdw_fields Tryz.underlying70 h hW
  have hz : Tryz.prog.cellsOf 70 = 2 := by kernel_rfl
  rw [hz] at hl
  obtain ⟨c0, c1, rfl⟩ := two_of hl
  have f0 : ∃ y, DataW.trod enc Tryz.prog w base spare held n 3 ((List.drop 0 [c0, c1]).take (Tryz.prog.cellsOf 3)) = some y ∧ WOk Tryz.prog 3 y.1 := hf 0 _ rfl
  rw [z3] at f0
  have f1 : ∃ y, DataW.trod enc Tryz.prog w base spare held n 3 ((List.drop 1 [c0, c1]).take (Tryz.prog.cellsOf 3)) = some y ∧ WOk Tryz.prog 3 y.1 := hf 1 _ rfl
  rw [z3] at f1
  exact ⟨n, c0, c1, rfl, f0, f1⟩
theorem rdF74 (h : DataW.trod enc Tryz.prog w base spare held fuel 74 cs = some x) (hW : WOk Tryz.prog 74 x.1) : ∃ n c0 c1, cs = [c0, c1] ∧ (∃ y, DataW.trod enc Tryz.prog w base spare held n 3 [c0] = some y ∧ WOk Tryz.prog 3 y.1) ∧ (∃ y, DataW.trod enc Tryz.prog w base spare held n 3 [c1] = some y ∧ WOk Tryz.prog 3 y.1) := by
  have z3 : Tryz.prog.cellsOf 3 = 1 := by kernel_rfl
  obtain ⟨hl, n, hf⟩ := rdw_fields Tryz.underlying74 h hW
  have hz : Tryz.prog.cellsOf 74 = 2 := by kernel_rfl
  rw [hz] at hl
  obtain ⟨c0, c1, rfl⟩ := two_of hl
  have f0 : ∃ y, DataW.trod enc Tryz.prog w base spare held n 3 ((List.drop 0 [c0, c1]).take (Tryz.prog.cellsOf 3)) = some y ∧ WOk Tryz.prog 3 y.1 := hf 0 _ rfl
  rw [z3] at f0
  have f1 : ∃ y, DataW.trod enc Tryz.prog w base spare held n 3 ((List.drop 1 [c0, c1]).take (Tryz.prog.cellsOf 3)) = some y ∧ WOk Tryz.prog 3 y.1 := hf 1 _ rfl
  rw [z3] at f1
  exact ⟨n, c0, c1, rfl, f0, f1⟩
theorem rdF196 (h : DataW.trod enc Tryz.prog w base spare held fuel 196 cs = some x) (hW : WOk Tryz.prog 196 x.1) : ∃ n c0 c1 c2 c3 c4 c5, cs = [c0, c1, c2, c3, c4, c5] ∧ (∃ y, DataW.trod enc Tryz.prog w base spare held n 9 [c0] = some y ∧ WOk Tryz.prog 9 y.1) ∧ (∃ y, DataW.trod enc Tryz.prog w base spare held n 39 [c1] = some y ∧ WOk Tryz.prog 39 y.1) ∧ (∃ y, DataW.trod enc Tryz.prog w base spare held n 3 [c2] = some y ∧ WOk Tryz.prog 3 y.1) ∧ (∃ y, DataW.trod enc Tryz.prog w base spare held n 3 [c3] = some y ∧ WOk Tryz.prog 3 y.1) ∧ (∃ y, DataW.trod enc Tryz.prog w base spare held n 3 [c4] = some y ∧ WOk Tryz.prog 3 y.1) ∧ (∃ y, DataW.trod enc Tryz.prog w base spare held n 3 [c5] = some y ∧ WOk Tryz.prog 3 y.1) := by
  have z3 : Tryz.prog.cellsOf 3 = 1 := by kernel_rfl
  have z9 : Tryz.prog.cellsOf 9 = 1 := by kernel_rfl
  have z39 : Tryz.prog.cellsOf 39 = 1 := by kernel_rfl
  obtain ⟨hl, n, hf⟩ := rdw_fields Tryz.underlying196 h hW
  have hz : Tryz.prog.cellsOf 196 = 6 := by kernel_rfl
  rw [hz] at hl
  obtain ⟨c0, c1, c2, c3, c4, c5, rfl⟩ := six_of hl
  have f0 : ∃ y, DataW.trod enc Tryz.prog w base spare held n 9 ((List.drop 0 [c0, c1, c2, c3, c4, c5]).take (Tryz.prog.cellsOf 9)) = some y ∧ WOk Tryz.prog 9 y.1 := hf 0 _ rfl
  rw [z9] at f0
  have f1 : ∃ y, DataW.trod enc Tryz.prog w base spare held n 39 ((List.drop 1 [c0, c1, c2, c3, c4, c5]).take (Tryz.prog.cellsOf 39)) = some y ∧ WOk Tryz.prog 39 y.1 := hf 1 _ rfl
  rw [z39] at f1
  have f2 : ∃ y, DataW.trod enc Tryz.prog w base spare held n 3 ((List.drop 2 [c0, c1, c2, c3, c4, c5]).take (Tryz.prog.cellsOf 3)) = some y ∧ WOk Tryz.prog 3 y.1 := hf 2 _ rfl
  rw [z3] at f2
  have f3 : ∃ y, DataW.trod enc Tryz.prog w base spare held n 3 ((List.drop 3 [c0, c1, c2, c3, c4, c5]).take (Tryz.prog.cellsOf 3)) = some y ∧ WOk Tryz.prog 3 y.1 := hf 3 _ rfl
  rw [z3] at f3
  have f4 : ∃ y, DataW.trod enc Tryz.prog w base spare held n 3 ((List.drop 4 [c0, c1, c2, c3, c4, c5]).take (Tryz.prog.cellsOf 3)) = some y ∧ WOk Tryz.prog 3 y.1 := hf 4 _ rfl
  rw [z3] at f4
  have f5 : ∃ y, DataW.trod enc Tryz.prog w base spare held n 3 ((List.drop 5 [c0, c1, c2, c3, c4, c5]).take (Tryz.prog.cellsOf 3)) = some y ∧ WOk Tryz.prog 3 y.1 := hf 5 _ rfl
  rw [z3] at f5
  exact ⟨n, c0, c1, c2, c3, c4, c5, rfl, f0, f1, f2, f3, f4, f5⟩
theorem rdF205 (h : DataW.trod enc Tryz.prog w base spare held fuel 205 cs = some x) (hW : WOk Tryz.prog 205 x.1) : ∃ n c0 c1 c2, cs = [c0, c1, c2] ∧ (∃ y, DataW.trod enc Tryz.prog w base spare held n 3 [c0] = some y ∧ WOk Tryz.prog 3 y.1) ∧ (∃ y, DataW.trod enc Tryz.prog w base spare held n 74 [c1, c2] = some y ∧ WOk Tryz.prog 74 y.1) := by
  have z3 : Tryz.prog.cellsOf 3 = 1 := by kernel_rfl
  have z74 : Tryz.prog.cellsOf 74 = 2 := by kernel_rfl
  obtain ⟨hl, n, hf⟩ := rdw_fields Tryz.underlying205 h hW
  have hz : Tryz.prog.cellsOf 205 = 3 := by kernel_rfl
  rw [hz] at hl
  obtain ⟨c0, c1, c2, rfl⟩ := three_of hl
  have f0 : ∃ y, DataW.trod enc Tryz.prog w base spare held n 3 ((List.drop 0 [c0, c1, c2]).take (Tryz.prog.cellsOf 3)) = some y ∧ WOk Tryz.prog 3 y.1 := hf 0 _ rfl
  rw [z3] at f0
  have f1 : ∃ y, DataW.trod enc Tryz.prog w base spare held n 74 ((List.drop 1 [c0, c1, c2]).take (Tryz.prog.cellsOf 74)) = some y ∧ WOk Tryz.prog 74 y.1 := hf 1 _ rfl
  rw [z74] at f1
  exact ⟨n, c0, c1, c2, rfl, f0, f1⟩
end
end Go.Proofs.YtgidbailiababaaGreatDoor

/- part Rd1 -/
namespace Go.Proofs.YtgidbailiababaaGreatDoor
open Go Bx
theorem rd_Ints : RdW Tryz.prog 39 (fun w cs (l : List Int) => ∃ v, cs = [v] ∧ Sl w 1 RInt v l ∧ l.length * 8 ≤ 140737488351232) := rdw_slice (Rd.w (rd_int Tryz.underlying3)) (by kernel_rfl) (by decide) Tryz.underlying39 (by kernel_rfl)
theorem rd_Row : RdW Tryz.prog 39 RRow := fun H enc w base spare held fuel cs x h hW => by obtain ⟨a, v, e, i, -⟩ := rd_Ints H enc w base spare held fuel cs x h hW; exact ⟨a, v, e, i⟩
theorem rd_Rows : RdW Tryz.prog 59 (fun w cs (l : List (List Int)) => ∃ v, cs = [v] ∧ Sl w 1 RRow v l ∧ l.length * 24 ≤ 140737488351232) := rdw_slice rd_Row (by kernel_rfl) (by decide) Tryz.underlying59 (by kernel_rfl)
theorem rd_Span : RdW Tryz.prog 74 RSpan := by
  intro H enc w base spare held fuel cs x h hW
  obtain ⟨n, c0, c1, rfl, ⟨y0, f0, k0⟩, ⟨y1, f1, k1⟩⟩ := rdF74 h hW
  obtain ⟨a0, g0⟩ := (Rd.w (rd_int Tryz.underlying3)) _ _ _ _ _ _ _ _ _ f0 k0
  obtain ⟨a1, g1⟩ := (Rd.w (rd_int Tryz.underlying3)) _ _ _ _ _ _ _ _ _ f1 k1
  obtain ⟨e0, i0⟩ := g0; obtain ⟨e1, i1⟩ := g1; cases e0; cases e1; exact ⟨⟨a0, a1⟩, rfl, i0, i1⟩
theorem rd_Datum : RdW Tryz.prog 205 RDatum := by
  intro H enc w base spare held fuel cs x h hW
  obtain ⟨n, c0, c1, c2, rfl, ⟨y0, f0, k0⟩, ⟨y1, f1, k1⟩⟩ := rdF205 h hW
  obtain ⟨a0, g0⟩ := (Rd.w (rd_int Tryz.underlying3)) _ _ _ _ _ _ _ _ _ f0 k0
  obtain ⟨a1, g1⟩ := rd_Span _ _ _ _ _ _ _ _ _ f1 k1
  obtain ⟨e0, i0⟩ := g0; obtain ⟨e1, i1, i2⟩ := g1; cases e0; cases e1; exact ⟨⟨a0, a1⟩, rfl, i0, i1, i2⟩
theorem rd_Datums : RdW Tryz.prog 65 (fun w cs (l : List Datum) => ∃ v, cs = [v] ∧ Sl w 3 RDatum v l ∧ l.length * 24 ≤ 140737488351232) := rdw_slice rd_Datum (by kernel_rfl) (by decide) Tryz.underlying65 (by kernel_rfl)
theorem rd_Reading : RdW Tryz.prog 70 RRead := by
  intro H enc w base spare held fuel cs x h hW
  obtain ⟨n, c0, c1, rfl, ⟨y0, f0, k0⟩, ⟨y1, f1, k1⟩⟩ := rdF70 h hW
  obtain ⟨a0, g0⟩ := (Rd.w (rd_int Tryz.underlying3)) _ _ _ _ _ _ _ _ _ f0 k0
  obtain ⟨a1, g1⟩ := (Rd.w (rd_int Tryz.underlying3)) _ _ _ _ _ _ _ _ _ f1 k1
  obtain ⟨e0, i0⟩ := g0; obtain ⟨e1, i1⟩ := g1; cases e0; cases e1; exact ⟨⟨a0, a1⟩, rfl, i0, i1⟩
theorem rd_Readings : RdW Tryz.prog 66 (fun w cs (l : List Reading) => ∃ v, cs = [v] ∧ Sl w 2 RRead v l ∧ l.length * 16 ≤ 140737488351232) := rdw_slice rd_Reading (by kernel_rfl) (by decide) Tryz.underlying66 (by kernel_rfl)
theorem rd_Gauge : RdW Tryz.prog 68 RGauge := by
  intro H enc w base spare held fuel cs x h hW
  obtain ⟨n, c0, c1, c2, c3, c4, rfl, ⟨y0, f0, k0⟩, ⟨y1, f1, k1⟩, ⟨y2, f2, k2⟩, ⟨y3, f3, k3⟩, ⟨y4, f4, k4⟩⟩ := rdF68 h hW
  obtain ⟨a0, g0⟩ := (Rd.w (rd_str Tryz.underlying9)) _ _ _ _ _ _ _ _ _ f0 k0
  obtain ⟨a1, g1⟩ := (Rd.w (rd_int Tryz.underlying3)) _ _ _ _ _ _ _ _ _ f1 k1
  obtain ⟨a2, g2⟩ := (Rd.w (rd_int Tryz.underlying3)) _ _ _ _ _ _ _ _ _ f2 k2
  obtain ⟨a3, g3⟩ := rd_Datums _ _ _ _ _ _ _ _ _ f3 k3
  obtain ⟨a4, g4⟩ := rd_Readings _ _ _ _ _ _ _ _ _ f4 k4
  obtain ⟨e0, i0⟩ := g0; obtain ⟨e1, i1⟩ := g1; obtain ⟨e2, i2⟩ := g2; obtain ⟨v3, e3, i3, r3⟩ := g3; obtain ⟨v4, e4, i4, r4⟩ := g4; cases e0; cases e1; cases e2; cases e3; cases e4; exact ⟨⟨a0, a1, a2, a3, a4⟩, _, _, rfl, i0, i1, i2, i3, i4⟩
theorem rd_Gauges : RdW Tryz.prog 25 (fun w cs (l : List Gauge) => ∃ v, cs = [v] ∧ Sl w 5 RGauge v l ∧ l.length * 80 ≤ 140737488351232) := rdw_slice rd_Gauge (by kernel_rfl) (by decide) Tryz.underlying25 (by kernel_rfl)
theorem rd_Const : RdW Tryz.prog 196 RConst := by
  intro H enc w base spare held fuel cs x h hW
  obtain ⟨n, c0, c1, c2, c3, c4, c5, rfl, ⟨y0, f0, k0⟩, ⟨y1, f1, k1⟩, ⟨y2, f2, k2⟩, ⟨y3, f3, k3⟩, ⟨y4, f4, k4⟩, ⟨y5, f5, k5⟩⟩ := rdF196 h hW
  obtain ⟨a0, g0⟩ := (Rd.w (rd_str Tryz.underlying9)) _ _ _ _ _ _ _ _ _ f0 k0
  obtain ⟨a1, g1⟩ := rd_Ints _ _ _ _ _ _ _ _ _ f1 k1
  obtain ⟨a2, g2⟩ := (Rd.w (rd_int Tryz.underlying3)) _ _ _ _ _ _ _ _ _ f2 k2
  obtain ⟨a3, g3⟩ := (Rd.w (rd_int Tryz.underlying3)) _ _ _ _ _ _ _ _ _ f3 k3
  obtain ⟨a4, g4⟩ := (Rd.w (rd_int Tryz.underlying3)) _ _ _ _ _ _ _ _ _ f4 k4
  obtain ⟨a5, g5⟩ := (Rd.w (rd_int Tryz.underlying3)) _ _ _ _ _ _ _ _ _ f5 k5
  obtain ⟨e0, i0⟩ := g0; obtain ⟨e2, i2⟩ := g2; obtain ⟨e3, i3⟩ := g3; obtain ⟨e4, i4⟩ := g4; obtain ⟨e5, i5⟩ := g5; obtain ⟨v1, e1, i1, r1⟩ := g1; cases e0; cases e1; cases e2; cases e3; cases e4; cases e5; exact ⟨⟨a0, a1, a2, a3, a4, a5⟩, _, rfl, i0, i1, i2, i3, i4, i5⟩
theorem rd_Consts : RdW Tryz.prog 22 (fun w cs (l : List Const) => ∃ v, cs = [v] ∧ Sl w 6 RConst v l ∧ l.length * 72 ≤ 140737488351232) := rdw_slice rd_Const (by kernel_rfl) (by decide) Tryz.underlying22 (by kernel_rfl)
theorem rd_Table : RdW Tryz.prog 24 RTable := by
  intro H enc w base spare held fuel cs x h hW
  obtain ⟨n, c0, c1, rfl, ⟨y0, f0, k0⟩, ⟨y1, f1, k1⟩⟩ := rdF24 h hW
  obtain ⟨a0, g0⟩ := (Rd.w (rd_int Tryz.underlying3)) _ _ _ _ _ _ _ _ _ f0 k0
  obtain ⟨a1, g1⟩ := rd_Consts _ _ _ _ _ _ _ _ _ f1 k1
  obtain ⟨e0, i0⟩ := g0; obtain ⟨v1, e1, i1, r1⟩ := g1; cases e0; cases e1; exact ⟨⟨a0, a1⟩, _, rfl, i0, i1⟩
theorem rd_Ctr : RdW Tryz.prog 57 RCtr := by
  intro H enc w base spare held fuel cs x h hW
  obtain ⟨n, c0, c1, c2, c3, rfl, ⟨y0, f0, k0⟩, ⟨y1, f1, k1⟩, ⟨y2, f2, k2⟩, ⟨y3, f3, k3⟩⟩ := rdF57 h hW
  obtain ⟨a0, g0⟩ := (Rd.w (rd_str Tryz.underlying9)) _ _ _ _ _ _ _ _ _ f0 k0
  obtain ⟨a1, g1⟩ := (Rd.w (rd_int Tryz.underlying3)) _ _ _ _ _ _ _ _ _ f1 k1
  obtain ⟨a2, g2⟩ := (Rd.w (rd_int Tryz.underlying3)) _ _ _ _ _ _ _ _ _ f2 k2
  obtain ⟨a3, g3⟩ := (Rd.w (rd_int Tryz.underlying3)) _ _ _ _ _ _ _ _ _ f3 k3
  obtain ⟨e0, i0⟩ := g0; obtain ⟨e1, i1⟩ := g1; obtain ⟨e2, i2⟩ := g2; obtain ⟨e3, i3⟩ := g3; cases e0; cases e1; cases e2; cases e3; exact ⟨⟨a0, a1, a2, a3⟩, rfl, i0, i1, i2, i3⟩
theorem rd_Ctrs : RdW Tryz.prog 26 (fun w cs (l : List Ctr) => ∃ v, cs = [v] ∧ Sl w 4 RCtr v l ∧ l.length * 40 ≤ 140737488351232) := rdw_slice rd_Ctr (by kernel_rfl) (by decide) Tryz.underlying26 (by kernel_rfl)
theorem rd_Fct : RdW Tryz.prog 61 RFct := by
  intro H enc w base spare held fuel cs x h hW
  obtain ⟨n, c0, c1, c2, c3, rfl, ⟨y0, f0, k0⟩, ⟨y1, f1, k1⟩, ⟨y2, f2, k2⟩, ⟨y3, f3, k3⟩⟩ := rdF61 h hW
  obtain ⟨a0, g0⟩ := (Rd.w (rd_int Tryz.underlying3)) _ _ _ _ _ _ _ _ _ f0 k0
  obtain ⟨a1, g1⟩ := (Rd.w (rd_int Tryz.underlying3)) _ _ _ _ _ _ _ _ _ f1 k1
  obtain ⟨a2, g2⟩ := (Rd.w (rd_int Tryz.underlying3)) _ _ _ _ _ _ _ _ _ f2 k2
  obtain ⟨a3, g3⟩ := rd_Rows _ _ _ _ _ _ _ _ _ f3 k3
  obtain ⟨e0, i0⟩ := g0; obtain ⟨e1, i1⟩ := g1; obtain ⟨e2, i2⟩ := g2; obtain ⟨v3, e3, i3, r3⟩ := g3; cases e0; cases e1; cases e2; cases e3; exact ⟨⟨a0, a1, a2, a3⟩, _, rfl, i0, i1, i2, i3⟩
theorem rd_Fcts : RdW Tryz.prog 27 (fun w cs (l : List Fct) => ∃ v, cs = [v] ∧ Sl w 4 RFct v l ∧ l.length * 48 ≤ 140737488351232) := rdw_slice rd_Fct (by kernel_rfl) (by decide) Tryz.underlying27 (by kernel_rfl)
theorem rd_Sgt : RdW Tryz.prog 29 RSgt := by
  intro H enc w base spare held fuel cs x h hW
  obtain ⟨n, c0, c1, c2, c3, c4, c5, c6, c7, c8, c9, c10, c11, rfl, ⟨y0, f0, k0⟩, ⟨y1, f1, k1⟩, ⟨y2, f2, k2⟩, ⟨y3, f3, k3⟩, ⟨y4, f4, k4⟩, ⟨y5, f5, k5⟩, ⟨y6, f6, k6⟩, ⟨y7, f7, k7⟩, ⟨y8, f8, k8⟩, ⟨y9, f9, k9⟩, ⟨y10, f10, k10⟩⟩ := rdF29 h hW
  obtain ⟨a0, g0⟩ := rd_Table _ _ _ _ _ _ _ _ _ f0 k0
  obtain ⟨a1, g1⟩ := rd_Gauges _ _ _ _ _ _ _ _ _ f1 k1
  obtain ⟨a2, g2⟩ := (Rd.w (rd_int Tryz.underlying3)) _ _ _ _ _ _ _ _ _ f2 k2
  obtain ⟨a3, g3⟩ := (Rd.w (rd_int Tryz.underlying3)) _ _ _ _ _ _ _ _ _ f3 k3
  obtain ⟨a4, g4⟩ := (Rd.w (rd_int Tryz.underlying3)) _ _ _ _ _ _ _ _ _ f4 k4
  obtain ⟨a5, g5⟩ := rd_Ctrs _ _ _ _ _ _ _ _ _ f5 k5
  obtain ⟨a6, g6⟩ := rd_Fcts _ _ _ _ _ _ _ _ _ f6 k6
  obtain ⟨a7, g7⟩ := (Rd.w (rd_int Tryz.underlying3)) _ _ _ _ _ _ _ _ _ f7 k7
  obtain ⟨a8, g8⟩ := (Rd.w (rd_int Tryz.underlying3)) _ _ _ _ _ _ _ _ _ f8 k8
  obtain ⟨a9, g9⟩ := (Rd.w (rd_int Tryz.underlying3)) _ _ _ _ _ _ _ _ _ f9 k9
  obtain ⟨a10, g10⟩ := (Rd.w (rd_int Tryz.underlying3)) _ _ _ _ _ _ _ _ _ f10 k10
  obtain ⟨q0, e0, t0, t1⟩ := g0; obtain ⟨e2, i2⟩ := g2; obtain ⟨e3, i3⟩ := g3; obtain ⟨e4, i4⟩ := g4; obtain ⟨e7, i7⟩ := g7; obtain ⟨e8, i8⟩ := g8; obtain ⟨e9, i9⟩ := g9; obtain ⟨e10, i10⟩ := g10; obtain ⟨v1, e1, i1, r1⟩ := g1; obtain ⟨v5, e5, i5, r5⟩ := g5; obtain ⟨v6, e6, i6, r6⟩ := g6; cases e0; cases e1; cases e2; cases e3; cases e4; cases e5; cases e6; cases e7; cases e8; cases e9; cases e10; exact ⟨⟨a0, a1, a2, a3, a4, a5, a6, a7, a8, a9, a10⟩, _, _, _, _, rfl, ⟨_, rfl, t0, t1⟩, i1, i2, i3, i4, i5, i6, i7, i8, i9, i10⟩
end Go.Proofs.YtgidbailiababaaGreatDoor

/- part Laid -/
namespace Go.Proofs.YtgidbailiababaaGreatDoor
open Go Bx Go.ChangeShapes Go.WideShapes Go.RowKit
theorem laidEt : Tryz.prog.globalNamed "barrage/surge.level" = some 0 := by kernel_rfl
theorem laidTy : (Tryz.prog.globals[0]?).map (·.type) = some 74 := by kernel_rfl
theorem glb_of_laid {W : World} (h : laidMetH Tryz.prog [("barrage/surge.level", Rows.laid_barrage_surge_level)] W) : Glb W := by
  have h' : laidMet Tryz.prog [("barrage/surge.level", Rows.laid_barrage_surge_level)] W := h
  obtain ⟨ps, hv, -, -⟩ := h'
  obtain ⟨g, t, cs, fuel, p, q, hg, ht, hw, htr, -, -⟩ := hv
  obtain rfl : 0 = g := Option.some.inj (laidEt.symm.trans hg)
  obtain rfl : 74 = t := Option.some.inj (laidTy.symm.trans ht)
  obtain ⟨y0, y1, n, hx, hlen, h0, h1⟩ := trod_struct2 Tryz.underlying74 htr
  obtain ⟨a, e0, rfl, -⟩ := DataW.trod_int Tryz.underlying3 h0
  obtain ⟨b, e1, rfl, -⟩ := DataW.trod_int Tryz.underlying3 h1
  have hl2 : cs.toList.length = 2 := hlen.trans (by kernel_rfl)
  have hc : Tryz.prog.cellsOf 3 = 1 := by kernel_rfl
  obtain ⟨u0, u1, hcs⟩ : ∃ u0 u1, cs.toList = [u0, u1] := by
    match hm : cs.toList, hl2 with
    | [u0, u1], _ => exact ⟨u0, u1, rfl⟩
  rw [hcs] at e0 e1
  simp only [hc] at e0 e1
  have d0 : u0 = .int .i64 a := by simpa using e0
  have d1 : u1 = .int .i64 b := by simpa using e1
  have hd : (a = -20000) ∧ b = 20000 := by
    have := (Prod.mk.inj hx).1
    unfold Rows.laid_barrage_surge_level at this
    injection this with this
    simp only [List.cons.injEq, DataW.lit.injEq, Lit.int.injEq, and_true, true_and] at this
    exact ⟨this.1.symm, this.2.symm⟩
  obtain ⟨rfl, rfl⟩ := hd
  subst d0; subst d1
  intro j u hj
  have := World.var?_cell laidEt hw j
  rw [Nat.zero_add, this, ← Array.getElem?_toList, hcs]
  exact hj
noncomputable def laidWorld (os : Os) : World :=
  let w0 := World.holding Tryz.prog os ⟨#[], #[], []⟩
  { w0 with heap := w0.heap.modify 0 fun
      | .cells _ t frozen => .cells #[.int .i64 (-20000), .int .i64 20000] t frozen
      | o => o }
theorem laidWorld_met (os : Os) (args : Array Value) : laidMetH Tryz.prog [("barrage/surge.level", Rows.laid_barrage_surge_level)] ((laidWorld os).forCall (fun _ _ => 0) ⟨#[], args, []⟩).memory :=
  laidMetH_of_parts (laidMet_of_run (ps := [.cell 0 0, .cell 0 1]) 8 (by kernel_rfl) (by kernel_rfl) (by kernel_rfl)) (by kernel_rfl)
end Go.Proofs.YtgidbailiababaaGreatDoor

