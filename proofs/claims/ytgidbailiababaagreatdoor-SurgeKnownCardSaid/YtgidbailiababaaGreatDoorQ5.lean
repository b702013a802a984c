/- Merged texts, part 5. -/
import Derived.Test.YtgidbailiababaaGreatDoorQ4
import Derived.Test.YtgidbailiababaaGreatDoorRows
import Derived.ChangeSame
import Derived.ChangeVars
import Derived.ChangeArms
import Derived.JoinedOf
import Derived.RowKit
import Derived.FnData
import Derived.LaidLaws
import Derived.LaidHandle
import Derived.Stop.Joined
set_option linter.all false
/- part S18 -/
namespace Bx
open Go Go.RowKit
theorem has_no {s : List Span} {v : List Int} {k : Nat} (hk : k < s.length) (h : v.getD k 0 < (spn s k).lo ∨ (spn s k).hi < v.getD k 0) : hasS s v = false := by
  cases hc : hasS s v with
  | false => rfl
  | true =>
    have := List.all_eq_true.1 hc k (List.mem_range.2 hk)
    simp only [Bool.not_eq_true', Bool.or_eq_false_iff, decide_eq_false_iff_not] at this
    omega
theorem has_yes {s : List Span} {v : List Int} (h : ∀ i, i < s.length → ¬ (v.getD i 0 < (spn s i).lo ∨ (spn s i).hi < v.getD i 0)) : hasS s v = true := by
  refine List.all_eq_true.2 fun i hi => ?_
  have := h i (List.mem_range.1 hi)
  simp only [Bool.not_eq_true', Bool.or_eq_false_iff, decide_eq_false_iff_not]
  omega
theorem any_succ {p : Nat → Bool} {m : Nat} : (List.range (m + 1)).any p = ((List.range m).any p || p m) := by rw [List.range_succ, List.any_append]; simp
def encB (b : Bool) : List Value := [.bool b]
theorem sl_bools {w : World} {e : TypeId} {v : Value} {n : Nat} {l : List Bool} (h : w.ownsRow 0 e 1 v n (l.flatMap encB)) (hn : l.length = n) : Sl w 1 RBool v l := by
  have hf : l.flatMap encB = (l.map encB).flatten := by rw [List.flatMap_def]
  rw [hf] at h
  refine sl_of_row h ?_ hn
  clear h hn hf
  induction l with
  | nil => trivial
  | cons b l ih => exact ⟨rfl, rfl, ih⟩
section
variable {P : Program} {ops : Array Oper} {Q : Exit → Act → World → Prop} {n : Nat} {f : Fr} {w w0 : World} {S : List Nat} {rest : List Oper} {d : Nat} {ty : TypeId} {pos : String} {af : Array Edge}
theorem ungn {op : Op} {j dj : Nat} {want : Bool} {v : Value} (hd : dstOf ops j = some dj) (hn : Nat.blt dj n = true) (hb : f dj = v) (hv : v ≠ .bool want) (h : wpL P ops Q n rest (upd f d undef) w) : wpL P ops Q n (⟨some d, op, ty, pos, af, some (j, want)⟩ :: rest) f w :=
  wpL_guard (G := False) (v := undef) hd hn ⟨False.elim, fun e => hv (hb.symm.trans e)⟩ (fun g => g.elim) fun v' c => by rw [c.2 id]; exact h
end
section
variable {t : Sgt} {now : Int} {v : List Int}
theorem right_len : (rightS t now v).length = t.ctrs.length := by simp [rightS]
theorem right_get {k : Nat} (h : k < t.ctrs.length) : (rightS t now v)[k]? = some (rightAt t now v k) := by simp [rightS, h]
theorem right_no {k : Nat} (h : ¬ 0 ≤ curOf t now k) : rightAt t now v k = false := by unfold rightAt; rw [decide_eq_false h]; rfl
theorem right_yes {k : Nat} (h : 0 ≤ curOf t now k) : rightAt t now v k = (List.range (fct t.fcs (curOf t now k).toNat).members.length).any fun m => hasS (tubeS t (fct t.fcs (curOf t now k).toNat) (mem (fct t.fcs (curOf t now k).toNat) m)) v := by unfold rightAt; rw [decide_eq_true h]; rfl
theorem cnt_snoc {l : List Bool} {k : Nat} {b : Bool} (h : l[k]? = some b) : (l.take (k + 1)).countP (fun b => b) = (l.take k).countP (fun b => b) + if b = true then 1 else 0 := by rw [take_snoc h, List.countP_append, List.countP_singleton]
theorem cnt_le {l : List Bool} {k : Nat} : (l.take k).countP (fun b => b) ≤ k := by
  have := List.countP_le_length (p := fun b : Bool => b) (l := l.take k)
  rw [List.length_take] at this; omega
end
end Bx

/- part Sx5 -/
namespace Go.Proofs.YtgidbailiababaaGreatDoor
open Go Bx
set_option maxHeartbeats 1000000 in
theorem c_has {s : List Span} {v : List Int} {sv vv : Value} {w0 : World} (hs : Sl w0 2 RSpan sv s) (hv : Sl w0 1 RInt vv v) (hl : v.length = s.length) : CV Tryz.prog 131 #[sv, vv] w0 (.bool (hasS s v)) := by
 obtain ⟨a, ca, rfl, hacap, hamx, -⟩ := id hs
 obtain ⟨av, cv, rfl, -⟩ := id hv
 refine enter Tryz.func131 rfl Tryz.ntmps131 rfl ?_
 have hS := St.start w0
 refine seq <| region <| sv (yAsg rfl) <| nil <| cwQ <| seq <| seq <| region <| sv (yMove rfl) ?_
 refine sv (yLen rfl Tryz.underlying121) <| sv (yMove rfl) <| nil <| cwQ <| block <| loop (fun f w zz => ∃ (k : Nat), f 1 = .slice av v.length cv ∧ f 7 = .slice a s.length ca ∧ f 8 = .int .i64 (s.length : Int) ∧ f 9 = .int .i64 (k : Int) ∧ StX [] w0 w [] ∧ (k ≤ s.length) ∧ (∀ i, i < k → ¬ (v.getD i 0 < (spn s i).lo ∨ (spn s i).hi < v.getD i 0)) ∧ zz = s.length - k) _ ⟨_, rfl, 0, rfl, rfl, rfl, rfl, hS, (Nat.zero_le _), (fun i hi => absurd hi (Nat.not_lt_zero _)), rfl⟩ ?_
 clear hS
 rintro f w _ ⟨k, h1, h7, h8, h9, hS, hk, hA, rfl⟩
 refine seq <| region <| sv (yLss h9 h8) <| nil <| cwQ <| seq ?_
 refine cond rfl (fun c10 => ?_) (fun c10 => ?_)
 ·
  simp only [BS, ne_eq] at c10
  have hkl : k < s.length := by omega
  obtain ⟨bx, ox, cx, hax, hlx, hcx, hRx, -⟩ := sl_at hs (spn_get hkl)
  obtain ⟨rfl, -⟩ := hRx
  obtain ⟨by0, oy, cy, hay, hly, hcy, hRy, -⟩ := sl_at hv (show v[k]? = some (v.getD k 0) by simp [show k < v.length by omega])
  obtain ⟨rfl, -⟩ := hRy
  refine skip <| cwQ <| seq <| block <| seq <| region <| sv (yMove h9) <| sv (yIxa h7 hax h9 Tryz.runUnderlying121 Tryz.sizeOf74 (by omega) (by omega)) <| sv (yLdA rfl Tryz.isAgg74 Tryz.sizeOf74 (hcx.ext hS.ext) rfl) ?_
  refine salloc hS Tryz.zeroValue74 rfl ?_; clear hS; intro b6 w hS
  refine sv (yAsg rfl) ?_
  refine sst hS rfl rfl Tryz.sizeOf74 rfl rfl rfl rfl ?_; clear hS; intro w hS
  refine nil <| cwQ <| seq <| region_draw mixed (by kernel_rfl) hS <| qv (fun w hS => (yMove h1)) <| qv (fun w hS => (yMove rfl)) <| qv (fun w hS => (yIxa rfl hay rfl Tryz.runUnderlying39 Tryz.sizeOf3 (by omega) (by omega))) <| qv (fun w hS => (yLd rfl Tryz.isAgg3 (hcy.ext hS.ext).one)) <| qv (fun w hS => (fa74_0 rfl)) ?_
  refine qv (fun w hS => (yLdB rfl Tryz.isAgg3 (hS.at _) rfl)) <| qv (fun w hS => (yLss rfl rfl)) <| qv (fun w hS => (yMove rfl)) ?_
  refine qg rfl rfl rfl (fun g w hS => (yMove h1)) (fun v22 g22 => ?_)
  refine qg rfl rfl rfl (fun g w hS => (yMove rfl)) (fun v23 g23 => ?_)
  refine qg rfl rfl rfl (fun g w hS => (yIxa (g22.1 g) hay (g23.1 g) Tryz.runUnderlying39 Tryz.sizeOf3 (by omega) (by omega))) (fun v24 g24 => ?_)
  refine qg rfl rfl rfl (fun g w hS => (yLd (g24.1 g) Tryz.isAgg3 (hcy.ext hS.ext).one)) (fun v25 g25 => ?_)
  refine qg rfl rfl rfl (fun g w hS => (fa74_1 rfl)) (fun v26 g26 => ?_)
  refine qg rfl rfl rfl (fun g w hS => (yLdB (g26.1 g) Tryz.isAgg3 (hS.at _) rfl)) (fun v27 g27 => ?_)
  refine qg rfl rfl rfl (fun g w hS => (yGtr (g25.1 g) (g27.1 g))) (fun v28 g28 => ?_)
  refine qv (fun w hS => (yOr rfl rfl (fun hB => (g28.1 hB)))) ?_
  clear hS; refine qnil (fun w hS => ?_)
  refine cwQ ?_
  refine cond rfl (fun c29 => ?_) (fun c29 => ?_)
  ·
   simp only [BS, ne_eq] at c29
   refine seq <| region <| sv (yAsg rfl) <| nil <| cwQ ?_
   refine wp_ret (blockR (thenR (thenR (blockR (thenR ?_)))))
   exact retV (res1 rfl (congrArg Value.bool (show false = hasS s v from (has_no hkl c29).symm))) hS.ext
  ·
   simp only [BS, ne_eq] at c29
   refine skip <| cwQ <| region <| sv (yAdd h9 rfl ⟨by omega, by omega⟩) <| sv (yMove rfl) <| nil ?_
   exact ⟨_, _, rfl, ⟨k + 1, h1, h7, h8, rfl, (hS.sub (List.nil_sublist _)), (by omega), (fun i hi => by by_cases e : i = k; subst e; omega; exact hA i (by omega)), rfl⟩, by omega⟩
 ·
  simp only [BS, ne_eq] at c10
  obtain rfl : k = s.length := by omega
  refine exit <| cwQ <| seq <| region <| sv (yAsg rfl) <| nil <| cwQ <| wp_ret ?_
  exact retV (res1 rfl (congrArg Value.bool (show true = hasS s v from (has_yes hA).symm))) hS.ext
end Go.Proofs.YtgidbailiababaaGreatDoor

/- part Sx6 -/
namespace Go.Proofs.YtgidbailiababaaGreatDoor
open Go Bx
set_option maxHeartbeats 4000000 in
theorem c_right {t : Sgt} {now : Int} {ov : Value} {bk : Nat} {T : TypeId} {w0 : World} (hk : RKn w0 bk T t now ov) (hok : SgOk t) {v : List Int} {vv : Value} (hg : Glb w0) (hv : Sl w0 1 RInt vv v) (hvl : v.length = t.ticks.toNat) : CE Tryz.prog 76 #[.pointer (some ⟨bk, 0, none⟩), vv] w0 (fun u w' => ∃ rv, u = .tuple #[rv, .int .i64 (((rightS t now v).countP (fun b => b) : Nat) : Int)] ∧ St w0 w' [rowI rv 4 1 t.ctrs.length ((rightS t now v).flatMap encB)]) := by
 obtain ⟨cv, ag, cg, ak, ck, ae, ce, aw, cw, ax, cx, hkb, hT, hG, hC, hF, hW, hX⟩ := id hk
 have hnc := hok.nc
 have hcl := curS_len t now
 refine enter Tryz.func76 rfl Tryz.ntmps76 rfl ?_
 have hS := St.start w0
 refine seq <| region <| sv (yAsg rfl) <| sv (yAsg rfl) <| nil <| cwQ <| seq <| seq <| region ?_
 refine sv (yMove rfl) <| sv (yNil rfl) <| sv (fa123_3 rfl) <| sv (yLdB rfl Tryz.isAgg39 (hS.ext.get hkb) rfl) <| sv (yLen rfl Tryz.underlying39) <| sv (yMove rfl) <| nil <| cwQ <| block ?_
 refine loop (fun f w zz => ∃ (k : Nat) (rv : Value), f 0 = .pointer (some ⟨bk, 0, none⟩) ∧ f 1 = vv ∧ f 4 = rv ∧ f 5 = .int .i64 ((((rightS t now v).take k).countP (fun b => b) : Nat) : Int) ∧ f 13 = .slice ax t.ctrs.length cx ∧ f 14 = .int .i64 (t.ctrs.length : Int) ∧ f 15 = .int .i64 (k : Int) ∧ StX [] w0 w [rowI (rv) 4 1 k (((rightS t now v).take k).flatMap encB)] ∧ (k ≤ t.ctrs.length) ∧ zz = t.ctrs.length - k) _ ⟨_, rfl, 0, _, rfl, rfl, rfl, rfl, rfl, rfl, rfl, (hS.nilrow 4 1), (Nat.zero_le _), rfl⟩ ?_
 clear hS
 rintro f w _ ⟨k, rv, h0, h1, h4, h5, h13, h14, h15, hS, hk2, rfl⟩
 refine seq <| region <| sv (yLss h15 h14) <| nil <| cwQ <| seq ?_
 refine cond rfl (fun c16 => ?_) (fun c16 => ?_)
 ·
  simp only [BS, ne_eq] at c16
  have hkl : k < t.ctrs.length := by omega
  obtain ⟨bq, oq, cq, haq, hlq, hcq, hRq, -⟩ := sl_at hX (curS_get t now hkl)
  obtain ⟨rfl, -⟩ := hRq
  have hcnt : ((rightS t now v).take k).countP (fun b => b) ≤ k := cnt_le
  refine skip <| cwQ <| seq <| block <| seq <| region <| sv (yIxa h13 haq h15 Tryz.runUnderlying39 Tryz.sizeOf3 (by omega) (by omega)) <| sv (yLd rfl Tryz.isAgg3 (hcq.ext hS.ext).one) <| sv (yAsg rfl) ?_
  refine nil <| cwQ <| seq <| region <| sv (yAsg rfl) <| nil <| cwQ ?_
  refine seqJ (n := 61) (fun f w => ∃ (rb : Bool), f 0 = .pointer (some ⟨bk, 0, none⟩) ∧ f 1 = vv ∧ f 4 = rv ∧ f 5 = .int .i64 ((((rightS t now v).take k).countP (fun b => b) : Nat) : Int) ∧ f 13 = .slice ax t.ctrs.length cx ∧ f 14 = .int .i64 (t.ctrs.length : Int) ∧ f 15 = .int .i64 (k : Int) ∧ f 8 = .bool rb ∧ StX [] w0 w [rowI (rv) 4 1 k (((rightS t now v).take k).flatMap encB)] ∧ (rightAt t now v k = rb) ∧ True) ?_ ?_
  ·
   refine seq <| region <| sv (yMove rfl) <| sv (yGeq rfl rfl) <| nil <| cwQ ?_
   refine cond rfl (fun c20 => ?_) (fun c20 => ?_)
   ·
    simp only [BS, ne_eq] at c20
    obtain ⟨hcf0, hfo⟩ := cur_fct hok (show 0 ≤ curOf t now k by omega)
    obtain ⟨bf, of, csf, haf, -, hcf, hRf, -⟩ := sl_at hF (fct_get hcf0)
    obtain ⟨mv, rfl, hf1, hf2, hf3, hMm⟩ := id hRf
    obtain ⟨am, cm, rfl, hmcap, hmmx, -⟩ := id hMm
    have hnm := hfo.nm
    refine seq <| region <| sv (yMove h0) <| sv (yNil rfl) <| sv (fa123_0 rfl) <| sv (fa29_6 rfl) <| sv (yLdB rfl Tryz.isAgg27 (hS.ext.get hkb) rfl) <| sv (yMove rfl) <| sv (yIxa rfl haf (rfl.trans (congrArg (Value.int .i64) (show curOf t now k = (((curOf t now k).toNat : Nat) : Int) by omega))) Tryz.runUnderlying27 Tryz.sizeOf61 (by omega) (by omega)) ?_
    refine sv (fa61_3 rfl) <| sv (yLd rfl Tryz.isAgg59 ((hcf.ext hS.ext).at (j := 3) rfl)) <| sv (yLen rfl Tryz.underlying59) <| sv (yMove rfl) <| nil <| cwQ <| block <| loop (fun f w zz => ∃ (m : Nat) (can : Bool), f 0 = .pointer (some ⟨bk, 0, none⟩) ∧ f 1 = vv ∧ f 4 = rv ∧ f 5 = .int .i64 ((((rightS t now v).take k).countP (fun b => b) : Nat) : Int) ∧ f 13 = .slice ax t.ctrs.length cx ∧ f 14 = .int .i64 (t.ctrs.length : Int) ∧ f 15 = .int .i64 (k : Int) ∧ f 7 = .int .i64 (curOf t now k) ∧ f 8 = .bool can ∧ f 29 = .slice am (fct t.fcs (curOf t now k).toNat).members.length cm ∧ f 30 = .int .i64 ((fct t.fcs (curOf t now k).toNat).members.length : Int) ∧ f 31 = .int .i64 (m : Int) ∧ StX [] w0 w [rowI (rv) 4 1 k (((rightS t now v).take k).flatMap encB)] ∧ (m ≤ (fct t.fcs (curOf t now k).toNat).members.length) ∧ (can = (List.range m).any fun q => hasS (tubeS t (fct t.fcs (curOf t now k).toNat) (mem (fct t.fcs (curOf t now k).toNat) q)) v) ∧ zz = (fct t.fcs (curOf t now k).toNat).members.length - m) _ ⟨_, rfl, 0, false, h0, h1, h4, h5, h13, h14, h15, rfl, rfl, rfl, rfl, rfl, hS, (Nat.zero_le _), (rfl), rfl⟩ ?_
    clear hS
    rintro f w _ ⟨m, can, h0, h1, h4, h5, h13, h14, h15, h7, h8, h29, h30, h31, hS, hm, hcan, rfl⟩
    refine seq <| region <| sv (yLss h31 h30) <| nil <| cwQ <| seq ?_
    refine cond rfl (fun c32 => ?_) (fun c32 => ?_)
    ·
     simp only [BS, ne_eq] at c32
     have hml : m < (fct t.fcs (curOf t now k).toNat).members.length := by omega
     refine skip <| cwQ <| seq <| block <| seq <| region <| sv (yMove h31) <| sv (yAsg rfl) <| nil ?_
     refine cwQ ?_
     rcases Bool.eq_false_or_eq_true can with hcc | hcc
     ·
      refine region <| sv (yMove h8) <| sv (yMove rfl) ?_
      refine ungn (v := .bool can) rfl rfl rfl (by rw [hcc]; simp) ?_
      refine ungn (v := .bool can) rfl rfl rfl (by rw [hcc]; simp) ?_
      refine ungn (v := .bool can) rfl rfl rfl (by rw [hcc]; simp) ?_
      refine ungn (v := .bool can) rfl rfl rfl (by rw [hcc]; simp) ?_
      refine ungn (v := .bool can) rfl rfl rfl (by rw [hcc]; simp) ?_
      refine ungn (v := .bool can) rfl rfl rfl (by rw [hcc]; simp) ?_
      refine ungn (v := .bool can) rfl rfl rfl (by rw [hcc]; simp) ?_
      refine ungn (v := .bool can) rfl rfl rfl (by rw [hcc]; simp) ?_
      refine ungn (v := .bool can) rfl rfl rfl (by rw [hcc]; simp) ?_
      refine ungn (v := .bool can) rfl rfl rfl (by rw [hcc]; simp) ?_
      refine ungn (v := .bool can) rfl rfl rfl (by rw [hcc]; simp) ?_
      refine ungn (v := .bool can) rfl rfl rfl (by rw [hcc]; simp) ?_
      refine ungn (v := .bool can) rfl rfl rfl (by rw [hcc]; simp) ?_
      refine sv (yPick (v := .bool can) (B := can) rfl (fun _ => by rw [hcc]; rfl) (fun h => absurd (hcc.symm.trans h) (by decide))) ?_
      refine sv (yAsg rfl) <| nil <| cwQ <| region <| sv (yAdd h31 rfl ⟨by omega, by omega⟩) <| sv (yMove rfl) <| nil ?_
      exact ⟨_, _, rfl, ⟨m + 1, can, h0, h1, h4, h5, h13, h14, h15, h7, rfl, h29, h30, rfl, hS, (by omega), (by rw [any_succ, ← hcan, hcc]; rfl), rfl⟩, by omega⟩
     ·
      refine region <| sv (yMove h8) <| sv (yMove rfl) <| ungo rfl rfl (congrArg Value.bool hcc) <| sv (yMove h0) <| ungo rfl rfl (congrArg Value.bool hcc) <| sv (yMove h0) <| ungo rfl rfl (congrArg Value.bool hcc) <| sv (yNil rfl) ?_
      refine ungo rfl rfl (congrArg Value.bool hcc) <| sv (fa123_0 rfl) <| ungo rfl rfl (congrArg Value.bool hcc) <| sv (fa29_6 rfl) <| ungo rfl rfl (congrArg Value.bool hcc) <| sv (yLdB rfl Tryz.isAgg27 (hS.ext.get hkb) rfl) <| ungo rfl rfl (congrArg Value.bool hcc) <| sv (yMove h7) <| ungo rfl rfl (congrArg Value.bool hcc) ?_
      refine sv (yIxa rfl haf (rfl.trans (congrArg (Value.int .i64) (show curOf t now k = (((curOf t now k).toNat : Nat) : Int) by omega))) Tryz.runUnderlying27 Tryz.sizeOf61 (by omega) (by omega)) <| ungo rfl rfl (congrArg Value.bool hcc) <| sv (yLdA rfl Tryz.isAgg61 Tryz.sizeOf61 (hcf.ext hS.ext) rfl) <| ungo rfl rfl (congrArg Value.bool hcc) <| sv (yMove rfl) <| ungo rfl rfl (congrArg Value.bool hcc) ?_
      refine scall Tryz.call83 (.cons rfl (.cons rfl (.cons rfl .nil))) (c_tubeS (hk.ext hS.ext) hok (hg.ext hS.ext) hfo hml (hMm.ext RRow.stays hS.ext)) ?_
      rintro tv w hM; replace hS := hS.call1 hM; clear hM
      have htl := tubeS_lbd hok hfo hml
      refine ungo rfl rfl (congrArg Value.bool hcc) <| sv (yMove h1) <| ungo rfl rfl (congrArg Value.bool hcc) ?_
      refine scall Tryz.call131 (.cons rfl (.cons rfl .nil)) (c_has (sl_spans (hS.row tv) (tubeS_len ..) (lbd_i64 htl)) (hv.ext RInt.stays hS.ext) (hvl.trans (tubeS_len ..).symm)) ?_
      rintro _ w ⟨rfl, hE⟩; replace hS := hS.step hE; clear hE
      refine sv (yPick (v := .bool (hasS (tubeS t (fct t.fcs (curOf t now k).toNat) (mem (fct t.fcs (curOf t now k).toNat) m)) v)) (B := can) rfl (fun h => absurd (hcc.symm.trans h) (by decide)) (fun _ => rfl)) <| sv (yAsg rfl) <| nil <| cwQ <| region <| sv (yAdd h31 rfl ⟨by omega, by omega⟩) <| sv (yMove rfl) <| nil ?_
      exact ⟨_, _, rfl, ⟨m + 1, _, h0, h1, h4, h5, h13, h14, h15, h7, rfl, h29, h30, rfl, (hS.sub (.cons _ lrQ)), (by omega), (by rw [any_succ, ← hcan, hcc]; rfl), rfl⟩, by omega⟩
    ·
     simp only [BS, ne_eq] at c32
     obtain rfl : m = (fct t.fcs (curOf t now k).toNat).members.length := by omega
     refine exit ?_
     exact ⟨_, rfl, _, h0, h1, h4, h5, h13, h14, h15, h8, hS, ((by rw [right_yes (by omega), ← hcan])), trivial⟩
   ·
    simp only [BS, ne_eq] at c20
    refine skip ?_
    exact ⟨_, rfl, false, h0, h1, h4, h5, h13, h14, h15, rfl, hS, ((right_no (by omega))), trivial⟩
  ·
   clear hS; rintro f w ⟨rb, h0, h1, h4, h5, h13, h14, h15, h8, hS, hrb, -⟩
   refine seq <| seq <| region <| sv (yMove h8) <| nil <| cwQ ?_
   refine cond rfl (fun c51 => ?_) (fun c51 => ?_)
   ·
    have hrt : rb = true := c51
    refine region <| sv (yMove h5) <| sv (yAdd rfl rfl ⟨by omega, by omega⟩) <| sv (yAsg rfl) <| nil <| cwQ <| region <| sv (yMove h4) <| sv (yMove h8) ?_
    refine sbslice hS Tryz.underlying78 Tryz.sizeOf4 rfl Tryz.zeroValue4 rfl (.cons rfl rfl .nil) rfl ?_; clear hS; intro b56 w hS
    refine sapp (bytes := 1) (size := 1) (v := rv) (m := 1) hS rfl rfl Tryz.underlying78 ti4 rfl rfl rfl rfl (by decide) (blk_cells (hS.at _)) rfl rfl (by omega) (by omega) ?_; clear hS; intro v57 w hS
    refine sv (yAsg rfl) <| nil <| cwQ <| region <| sv (yAdd h15 rfl ⟨by omega, by omega⟩) <| sv (yMove rfl) <| nil ?_
    exact ⟨_, _, rfl, ⟨k + 1, _, h0, h1, rfl, (rfl.trans (congrArg (Value.int .i64) (by rw [cnt_snoc (right_get hkl), hrb, hrt]; simp))), h13, h14, rfl, (by rw [take_snoc (right_get hkl), List.flatMap_append, hrb]; exact hS.sub (.cons _ lrQ)), (by omega), rfl⟩, by omega⟩
   ·
    have hrt : rb = false := c51
    refine skip <| cwQ <| region <| sv (yMove h4) <| sv (yMove h8) ?_
    refine sbslice hS Tryz.underlying78 Tryz.sizeOf4 rfl Tryz.zeroValue4 rfl (.cons rfl rfl .nil) rfl ?_; clear hS; intro b56 w hS
    refine sapp (bytes := 1) (size := 1) (v := rv) (m := 1) hS rfl rfl Tryz.underlying78 ti4 rfl rfl rfl rfl (by decide) (blk_cells (hS.at _)) rfl rfl (by omega) (by omega) ?_; clear hS; intro v57 w hS
    refine sv (yAsg rfl) <| nil <| cwQ <| region <| sv (yAdd h15 rfl ⟨by omega, by omega⟩) <| sv (yMove rfl) <| nil ?_
    exact ⟨_, _, rfl, ⟨k + 1, _, h0, h1, rfl, (h5.trans (congrArg (Value.int .i64) (by rw [cnt_snoc (right_get hkl), hrb, hrt]; simp))), h13, h14, rfl, (by rw [take_snoc (right_get hkl), List.flatMap_append, hrb]; exact hS.sub (.cons _ lrQ)), (by omega), rfl⟩, by omega⟩
 ·
  simp only [BS, ne_eq] at c16
  obtain rfl : k = t.ctrs.length := by omega
  rw [show (rightS t now v).take t.ctrs.length = rightS t now v from List.take_of_length_le (by rw [right_len]; exact Nat.le_refl _)] at hS h5
  refine exit <| cwQ <| seq <| region <| sv (yMove h4) <| sv (yMove h5) <| sv (yAsg rfl) <| sv (yAsg rfl) <| nil ?_
  refine cwQ <| wp_ret <| retQ (res2 rfl rfl rfl) ?_
  exact ⟨_, rfl, hS⟩
end Go.Proofs.YtgidbailiababaaGreatDoor

/- part S19 -/
namespace Bx
open Go Go.RowKit
theorem getD_mem {v : List Int} {k : Nat} (h : k < v.length) : v.getD k 0 ∈ v := by
  have : v[k]? = some (v.getD k 0) := by simp [h]
  exact List.mem_of_getElem? this
theorem sl_cellx {w : World} {a : Option Addr} {b o n c : Nat} {l : List Int} {i : Nat} {x : Int} (h : Sl w 1 RInt (.slice a n c) l) (hx : l[i]? = some x) (ha : a = some ⟨b, o, none⟩) : w.cell? ⟨b, o + i * 1, none⟩ = some (.int .i64 x) := by
  subst ha
  exact sl_cell h hx
section
variable {t : Sgt} {now : Int} {v : List Int}
theorem rate_yes {r : Int} (h : ∀ i, i < v.length - 1 → outB (v.getD (i + 1) 0 - v.getD i 0) (-r) r = false) : rateB r v = true := by
  refine List.all_eq_true.2 fun i hi => ?_
  rw [h i (List.mem_range.1 hi)]; rfl
theorem is_rate {k : Nat} (hk : k + 1 < v.length) (h : outB (v.getD (k + 1) 0 - v.getD k 0) (-t.rate) t.rate = true) : isS t now v = false := by
  have hr : rateB t.rate v = false := by
    cases hc : rateB t.rate v with
    | false => rfl
    | true =>
      have := List.all_eq_true.1 hc k (List.mem_range.2 (by omega))
      rw [h] at this; cases this
  unfold isS
  rw [hr]; rfl
theorem is_has (h : hasS (baseS t now) v = false) : isS t now v = false := by
  unfold isS
  rw [h, Bool.and_false]; rfl
theorem is_all (h1 : rateB t.rate v = true) (h2 : hasS (baseS t now) v = true) : isS t now v = decide (needS t now ≤ ((rightS t now v).countP fun b => b : Nat)) := by
  unfold isS
  rw [h1, h2]; rfl
end
end Bx

/- part Sx7 -/
namespace Go.Proofs.YtgidbailiababaaGreatDoor
open Go Bx
set_option maxHeartbeats 4000000 in
theorem c_is {t : Sgt} {now : Int} {cv ov : Value} {ag ak ae aw ax : Option Addr} {cg ck ce cw cx bk mo : Nat} {os : List Span} {w0 w : World} {L9 : List Bx.Item} (h : RSgt w0 [.int .i64 t.table.mean, cv, .slice ag t.gauges.length cg, .int .i64 t.wrong, .int .i64 t.frm, .int .i64 t.ticks, .slice ak t.ctrs.length ck, .slice ae t.fcs.length ce, .int .i64 t.least, .int .i64 t.most, .int .i64 t.rate, .int .i64 t.quorum] t) (hok : SgOk t) (hnow : Bd now 0 200000) (hg : Glb w0) (hown : (os = [] ∧ mo = 0 ∧ ov = .slice none 0 0) ∨ (os = baseS t now ∧ mo = t.ticks.toNat)) (hS : StX [] w0 w (blk bk [.int .i64 t.table.mean, cv, .slice ag t.gauges.length cg, .int .i64 t.wrong, .int .i64 t.frm, .int .i64 t.ticks, .slice ak t.ctrs.length ck, .slice ae t.fcs.length ce, .int .i64 t.least, .int .i64 t.most, .int .i64 t.rate, .int .i64 t.quorum, .int .i64 now, .slice aw t.ticks.toNat cw, .slice ax t.ctrs.length cx, ov] 123 :: rowI (ov) 74 2 mo ((os).flatMap spanC) :: rowI (.slice aw t.ticks.toNat cw) 74 2 t.ticks.toNat ((tidesS t).flatMap spanC) :: rowI (.slice ax t.ctrs.length cx) 3 1 t.ctrs.length ((curS t now).flatMap Bx.encI) :: L9)) {v : List Int} {vv : Value} (hvr : ∀ w2 : World, (∀ it ∈ L9, it.ok w2) → Ext w0 w2 → Sl w2 1 RInt vv v) (hvl : v.length = t.ticks.toNat) (hvb : ∀ x ∈ v, Bd x (-200000) 200000) : CE Tryz.prog 70 #[.pointer (some ⟨bk, 0, none⟩), vv] w (fun u w' => u = .bool (isS t now v) ∧ ∃ (ov' : Value) (os' : List Span) (mo' : Nat), ((os' = [] ∧ mo' = 0 ∧ ov' = .slice none 0 0) ∨ (os' = baseS t now ∧ mo' = t.ticks.toNat)) ∧ StX [] w0 w' (blk bk [.int .i64 t.table.mean, cv, .slice ag t.gauges.length cg, .int .i64 t.wrong, .int .i64 t.frm, .int .i64 t.ticks, .slice ak t.ctrs.length ck, .slice ae t.fcs.length ce, .int .i64 t.least, .int .i64 t.most, .int .i64 t.rate, .int .i64 t.quorum, .int .i64 now, .slice aw t.ticks.toNat cw, .slice ax t.ctrs.length cx, ov'] 123 :: rowI (ov') 74 2 mo' ((os').flatMap spanC) :: rowI (.slice aw t.ticks.toNat cw) 74 2 t.ticks.toNat ((tidesS t).flatMap spanC) :: rowI (.slice ax t.ctrs.length cx) 3 1 t.ctrs.length ((curS t now).flatMap Bx.encI) :: L9)) := by
 obtain ⟨hT, hG, hw64, hf64, hk64, hC, hF, hl64, hm64, hr64, hq64⟩ := RSgt.parts h
 have htk := hok.tk
 have hn4 := hok.nums4
 obtain ⟨av, cvv, rfl, hvc, hvm, -⟩ := hvr _ (fun it hi => hS.ok it ((List.mem_cons_of_mem _ (List.mem_cons_of_mem _ (List.mem_cons_of_mem _ (List.mem_cons_of_mem _ hi)))))) hS.ext
 refine enter Tryz.func70 rfl Tryz.ntmps70 rfl ?_
 skip
 refine seq <| region <| sv (yAsg rfl) <| nil <| cwQ <| seq <| seq <| region <| sv (yAsg rfl) ?_
 refine nil <| cwQ <| block <| loop (fun f w zz => ∃ (k : Nat), f 0 = .pointer (some ⟨bk, 0, none⟩) ∧ f 1 = .slice av v.length cvv ∧ f 5 = .int .i64 ((k + 1 : Nat) : Int) ∧ StX [] w0 w (blk bk [.int .i64 t.table.mean, cv, .slice ag t.gauges.length cg, .int .i64 t.wrong, .int .i64 t.frm, .int .i64 t.ticks, .slice ak t.ctrs.length ck, .slice ae t.fcs.length ce, .int .i64 t.least, .int .i64 t.most, .int .i64 t.rate, .int .i64 t.quorum, .int .i64 now, .slice aw t.ticks.toNat cw, .slice ax t.ctrs.length cx, ov] 123 :: rowI (ov) 74 2 mo ((os).flatMap spanC) :: rowI (.slice aw t.ticks.toNat cw) 74 2 t.ticks.toNat ((tidesS t).flatMap spanC) :: rowI (.slice ax t.ctrs.length cx) 3 1 t.ctrs.length ((curS t now).flatMap Bx.encI) :: L9) ∧ (k + 1 ≤ v.length) ∧ (∀ i, i < k → outB (v.getD (i + 1) 0 - v.getD i 0) (-t.rate) t.rate = false) ∧ zz = v.length - k) _ ⟨_, rfl, 0, rfl, rfl, rfl, hS, (by omega), (fun i hi => absurd hi (Nat.not_lt_zero _)), rfl⟩ ?_
 clear hS
 rintro f w _ ⟨k, h0, h1, h5, hS, hk, hA, rfl⟩
 refine seq <| seq <| region <| sv (yMove h5) <| sv (yMove h1) <| sv (yLen rfl Tryz.underlying39) <| sv (yLss rfl rfl) <| nil <| cwQ ?_
 refine cond rfl (fun c11 => ?_) (fun c11 => ?_)
 ·
  simp only [BS, ne_eq] at c11
  have hkl : k + 1 < v.length := by omega
  have hvw := hvr _ (fun it hi => hS.ok it ((List.mem_cons_of_mem _ (List.mem_cons_of_mem _ (List.mem_cons_of_mem _ (List.mem_cons_of_mem _ hi)))))) hS.ext
  obtain ⟨b1, o1, c1, ha1, -, hc1, hR1, -⟩ := sl_at hvw (show v[k + 1]? = some (v.getD (k + 1) 0) by simp [hkl])
  obtain ⟨rfl, -⟩ := hR1
  obtain ⟨b0, o0, c0, ha0, -, hc0, hR0, -⟩ := sl_at hvw (show v[k]? = some (v.getD k 0) by simp [show k < v.length by omega])
  obtain ⟨rfl, -⟩ := hR0
  have hb1 := hvb _ (getD_mem hkl)
  have hb0 := hvb _ (getD_mem (show k < v.length by omega))
  refine skip <| cwQ <| seq <| block <| seq <| region_mix (fun w => StX [] w0 w (blk bk [.int .i64 t.table.mean, cv, .slice ag t.gauges.length cg, .int .i64 t.wrong, .int .i64 t.frm, .int .i64 t.ticks, .slice ak t.ctrs.length ck, .slice ae t.fcs.length ce, .int .i64 t.least, .int .i64 t.most, .int .i64 t.rate, .int .i64 t.quorum, .int .i64 now, .slice aw t.ticks.toNat cw, .slice ax t.ctrs.length cx, ov] 123 :: rowI (ov) 74 2 mo ((os).flatMap spanC) :: rowI (.slice aw t.ticks.toNat cw) 74 2 t.ticks.toNat ((tidesS t).flatMap spanC) :: rowI (.slice ax t.ctrs.length cx) 3 1 t.ctrs.length ((curS t now).flatMap Bx.encI) :: L9)) 22 mixed hS ?_
  clear hS; intro w hS
  refine f_step 0 (by kernel_rfl) rfl (fun c a a' w h => by obtain ⟨_, v, hv, _⟩ := h; cases hv) hS (fun w hS => (yMove h1)) ?_
  refine f_step 1 (by kernel_rfl) rfl (fun c a a' w h => by obtain ⟨_, v, hv, _⟩ := h; cases hv) hS (fun w hS => (yMove h5)) ?_
  refine f_step 2 (by kernel_rfl) rfl (fun c a a' w h => by obtain ⟨_, v, hv, _⟩ := h; cases hv) hS (fun w hS => (yIxa rfl ha1 (rfl.trans (congrArg (Value.int .i64) (show ((k + 1 : Nat) : Int) = _ from rfl))) Tryz.runUnderlying39 Tryz.sizeOf3 (by omega) (by omega))) ?_
  refine f_step 3 (by kernel_rfl) rfl (fun c a a' w h => by obtain ⟨_, v, hv, _⟩ := h; cases hv) hS (fun w hS => (yLd rfl Tryz.isAgg3 ((sl_cellx (hvr _ (fun it hi => hS.ok it ((List.mem_cons_of_mem _ (List.mem_cons_of_mem _ (List.mem_cons_of_mem _ (List.mem_cons_of_mem _ hi)))))) hS.ext) (show v[k + 1]? = some (v.getD (k + 1) 0) by simp [hkl]) ha1)))) ?_
  refine f_step 4 (by kernel_rfl) rfl (fun c a a' w h => by obtain ⟨_, v, hv, _⟩ := h; cases hv) hS (fun w hS => (yMove h1)) ?_
  refine f_step 5 (by kernel_rfl) rfl (fun c a a' w h => by obtain ⟨_, v, hv, _⟩ := h; cases hv) hS (fun w hS => (yMove h5)) ?_
  refine f_step 6 (by kernel_rfl) rfl (fun c a a' w h => by obtain ⟨_, v, hv, _⟩ := h; cases hv) hS (fun w hS => (Y.to (ySub rfl rfl ⟨by omega, by omega⟩) (congrArg (Value.int .i64) (show ((k + 1 : Nat) : Int) - 1 = (k : Int) by omega)))) ?_
  refine f_step 7 (by kernel_rfl) rfl (fun c a a' w h => by obtain ⟨_, v, hv, _⟩ := h; cases hv) hS (fun w hS => (yIxa rfl ha0 rfl Tryz.runUnderlying39 Tryz.sizeOf3 (by omega) (by omega))) ?_
  refine f_step 8 (by kernel_rfl) rfl (fun c a a' w h => by obtain ⟨_, v, hv, _⟩ := h; cases hv) hS (fun w hS => (yLd rfl Tryz.isAgg3 ((sl_cellx (hvr _ (fun it hi => hS.ok it ((List.mem_cons_of_mem _ (List.mem_cons_of_mem _ (List.mem_cons_of_mem _ (List.mem_cons_of_mem _ hi)))))) hS.ext) (show v[k]? = some (v.getD k 0) by simp [show k < v.length by omega]) ha0)))) ?_
  refine f_step 9 (by kernel_rfl) rfl (fun c a a' w h => by obtain ⟨_, v, hv, _⟩ := h; cases hv) hS (fun w hS => (ySub rfl rfl ⟨by omega, by omega⟩)) ?_
  refine f_step 10 (by kernel_rfl) rfl (fun c a a' w h => by obtain ⟨_, v, hv, _⟩ := h; cases hv) hS (fun w hS => (yMove h0)) ?_
  refine f_step 11 (by kernel_rfl) rfl (fun c a a' w h => by obtain ⟨_, v, hv, _⟩ := h; cases hv) hS (fun w hS => (yNil rfl)) ?_
  refine f_step 12 (by kernel_rfl) rfl (fun c a a' w h => by obtain ⟨_, v, hv, _⟩ := h; cases hv) hS (fun w hS => (fa123_0 rfl)) ?_
  refine f_step 13 (by kernel_rfl) rfl (fun c a a' w h => by obtain ⟨_, v, hv, _⟩ := h; cases hv) hS (fun w hS => (fa29_9 rfl)) ?_
  refine f_step 14 (by kernel_rfl) rfl (fun c a a' w h => by obtain ⟨_, v, hv, _⟩ := h; cases hv) hS (fun w hS => (yLdB rfl Tryz.isAgg3 (hS.at bk) rfl)) ?_
  refine f_step 15 (by kernel_rfl) rfl (fun c a a' w h => by obtain ⟨_, v, hv, _⟩ := h; cases hv) hS (fun w hS => (yNeg rfl ⟨by omega, by omega⟩)) ?_
  refine f_step 16 (by kernel_rfl) rfl (fun c a a' w h => by obtain ⟨_, v, hv, _⟩ := h; cases hv) hS (fun w hS => (yMove h0)) ?_
  refine f_step 17 (by kernel_rfl) rfl (fun c a a' w h => by obtain ⟨_, v, hv, _⟩ := h; cases hv) hS (fun w hS => (yNil rfl)) ?_
  refine f_step 18 (by kernel_rfl) rfl (fun c a a' w h => by obtain ⟨_, v, hv, _⟩ := h; cases hv) hS (fun w hS => (fa123_0 rfl)) ?_
  refine f_step 19 (by kernel_rfl) rfl (fun c a a' w h => by obtain ⟨_, v, hv, _⟩ := h; cases hv) hS (fun w hS => (fa29_9 rfl)) ?_
  refine f_step 20 (by kernel_rfl) rfl (fun c a a' w h => by obtain ⟨_, v, hv, _⟩ := h; cases hv) hS (fun w hS => (yLdB rfl Tryz.isAgg3 (hS.at bk) rfl)) ?_
  refine awQ <| a1Q 21 (by kernel_rfl) rfl ?_
  refine scall Tryz.call53 (.cons rfl (.cons rfl (.cons rfl .nil))) c_outS ?_
  rintro _ w ⟨rfl, hE⟩; replace hS := hS.step hE; clear hE
  refine nil ?_
  refine ⟨fun _ => hS, ?_⟩
  refine awQ <| a_end (by kernel_rfl) <| cwQ ?_
  refine cond rfl (fun c35 => ?_) (fun c35 => ?_)
  ·
   refine seq <| region <| sv (yAsg rfl) <| nil <| cwQ ?_
   refine wp_ret (blockR (thenR (thenR (blockR (thenR ?_)))))
   refine retQ (res1 rfl rfl) ?_
   exact ⟨by rw [is_rate hkl c35]; rfl, ov, os, mo, hown, hS⟩
  ·
   refine skip <| cwQ <| region <| sv (yMove h5) <| sv (yAdd rfl rfl ⟨by omega, by omega⟩) <| sv (yAsg rfl) <| nil ?_
   exact ⟨_, _, rfl, ⟨k + 1, h0, h1, rfl, hS, (by omega), (fun i hi => by
    by_cases e : i = k
    ·
     subst e; exact c35
    ·
     exact hA i (by omega)), rfl⟩, by omega⟩
 ·
  simp only [BS, ne_eq] at c11
  have hke : v.length = k + 1 := by omega
  have hrate := rate_yes (show ∀ i, i < v.length - 1 → _ from fun i hi => hA i (by omega))
  refine exit <| cwQ <| seq <| seq <| region <| sv (yMove h0) ?_
  refine scall Tryz.call81 (.cons rfl .nil) (c_baseS h hok hnow hg hown hS) ?_
  rintro bv w ⟨ov', hM⟩; clear hS; have hS := hM; clear hM
  refine sv (yMove h1) ?_
  refine scall Tryz.call131 (.cons rfl (.cons rfl .nil)) (c_has (sl_spans (hS.row bv) (baseS_len ..) (lbd_i64 (baseS_lbd hok now))) (hvr _ (fun it hi => hS.ok it ((List.mem_cons_of_mem _ (List.mem_cons_of_mem _ (List.mem_cons_of_mem _ (List.mem_cons_of_mem _ (List.mem_cons_of_mem _ hi))))))) hS.ext) (hvl.trans (baseS_len ..).symm)) ?_
  rintro _ w ⟨rfl, hE⟩; replace hS := hS.step hE; clear hE
  refine sv (yNot rfl) <| nil <| cwQ ?_
  refine cond rfl (fun c40 => ?_) (fun c40 => ?_)
  ·
   have hhas : hasS (baseS t now) v = false := by cases hh : hasS (baseS t now) v with | false => rfl | true => rw [hh] at c40; cases c40
   refine seq <| region <| sv (yAsg rfl) <| nil <| cwQ ?_
   refine wp_ret (thenR ?_)
   refine retQ (res1 rfl rfl) ?_
   exact ⟨by rw [is_has hhas]; rfl, ov', baseS t now, _, .inr ⟨rfl, rfl⟩, hS.sub (.cons _ lrQ)⟩
  ·
   have hhas : hasS (baseS t now) v = true := by cases hh : hasS (baseS t now) v with | true => rfl | false => rw [hh] at c40; cases c40
   refine skip <| cwQ <| seq <| region <| sv (yMove h0) <| sv (yMove h1) ?_
   refine scall Tryz.call76 (.cons rfl (.cons rfl .nil)) (c_right ⟨cv, ag, cg, ak, ck, ae, ce, aw, cw, ax, cx, hS.at bk, RTable.stays _ _ _ _ hS.ext hT, hG.ext RGauge.stays hS.ext, hC.ext RCtr.stays hS.ext, hF.ext RFct.stays hS.ext, sl_spans (hS.row (.slice aw t.ticks.toNat cw)) (tidesS_len ..) (lbd_i64 (tides_lbd hok)), sl_ints (hS.row (.slice ax t.ctrs.length cx)) (curS_len ..) (cur_i64 hok)⟩ hok (hg.ext hS.ext) (hvr _ (fun it hi => hS.ok it ((List.mem_cons_of_mem _ (List.mem_cons_of_mem _ (List.mem_cons_of_mem _ (List.mem_cons_of_mem _ (List.mem_cons_of_mem _ hi))))))) hS.ext) hvl) ?_
   rintro _ w ⟨rv, rfl, hM⟩; replace hS := hS.call1 hM; clear hM
   refine sv (yMove rfl) <| sv (yExt rfl rfl) <| sv (yExt rfl rfl) <| sv (yAsg rfl) <| sv (yAsg rfl) <| nil <| cwQ <| seq <| region ?_
   refine sv (yMove rfl) <| sv (yMove h0) ?_
   refine scall Tryz.call119 (.cons rfl .nil) (c_needS ⟨cv, ag, cg, ak, ck, ae, ce, aw, cw, ax, cx, hS.at bk, RTable.stays _ _ _ _ hS.ext hT, hG.ext RGauge.stays hS.ext, hC.ext RCtr.stays hS.ext, hF.ext RFct.stays hS.ext, sl_spans (hS.row (.slice aw t.ticks.toNat cw)) (tidesS_len ..) (lbd_i64 (tides_lbd hok)), sl_ints (hS.row (.slice ax t.ctrs.length cx)) (curS_len ..) (cur_i64 hok)⟩ hok) ?_
   rintro _ w ⟨rfl, hE⟩; replace hS := hS.step hE; clear hE
   refine sv (yGeq rfl rfl) <| sv (yAsg rfl) <| nil <| cwQ <| wp_ret <| retQ (res1 rfl rfl) ?_
   exact ⟨by rw [is_all hrate hhas]; rfl, ov', baseS t now, _, .inr ⟨rfl, rfl⟩, hS.sub (.cons _ (.cons _ lrQ))⟩
end Go.Proofs.YtgidbailiababaaGreatDoor

/- part Sx8 -/
namespace Go.Proofs.YtgidbailiababaaGreatDoor
open Go Bx
theorem c_his1 {a : Int} {w0 : World} (hg : Glb w0) : CV Tryz.prog 130 #[.int .i64 a] w0 (.bool (outB a (-20000) 20000)) := by
 refine enter Tryz.func130 rfl Tryz.ntmps130 rfl ?_
 have hS := St.start w0
 refine seq <| region <| sv (yAsg rfl) <| nil <| cwQ <| seq <| region <| sv (yMove rfl) <| sv (fa74_0 rfl) ?_
 refine sv (yLd rfl Tryz.isAgg3 ((hg.ext hS.ext).at (j := 0) rfl)) <| sv (fa74_1 rfl) <| sv (yLd rfl Tryz.isAgg3 ((hg.ext hS.ext).at (j := 1) rfl)) ?_
 refine scall Tryz.call53 (.cons rfl (.cons rfl (.cons rfl .nil))) c_outS ?_
 rintro _ w ⟨rfl, hE⟩; replace hS := hS.step hE; clear hE
 refine sv (yAsg rfl) <| nil <| cwQ <| wp_ret ?_
 exact retV (res1 rfl rfl) hS.ext
set_option maxHeartbeats 2000000 in
theorem c_history {t : Sgt} {cv : Value} {ag ak ae : Option Addr} {cg ck ce : Nat} {now : Int} {s : Ser} {vv : Value} {w0 : World} (h : RSgt w0 [.int .i64 t.table.mean, cv, .slice ag t.gauges.length cg, .int .i64 t.wrong, .int .i64 t.frm, .int .i64 t.ticks, .slice ak t.ctrs.length ck, .slice ae t.fcs.length ce, .int .i64 t.least, .int .i64 t.most, .int .i64 t.rate, .int .i64 t.quorum] t) (hg : Glb w0) (hI : I64 now) (hsf : I64 s.frm) (hsv : Sl w0 1 RInt vv s.vals) : CE Tryz.prog 69 #[.agg [.int .i64 t.table.mean, cv, .slice ag t.gauges.length cg, .int .i64 t.wrong, .int .i64 t.frm, .int .i64 t.ticks, .slice ak t.ctrs.length ck, .slice ae t.fcs.length ce, .int .i64 t.least, .int .i64 t.most, .int .i64 t.rate, .int .i64 t.quorum].toArray, .int .i64 now, .agg [.int .i64 s.frm, vv].toArray] w0 (fun u w' => (hisE t now s ≠ 0 ∧ ∃ p, u = .tuple #[p, .int .i64 (hisE t now s)] ∧ Ext w0 w') ∨ (hisE t now s = 0 ∧ ∃ bk aw cw ax cx, u = .tuple #[.pointer (some ⟨bk, 0, none⟩), .int .i64 0] ∧ St w0 w' [blk bk [.int .i64 t.table.mean, cv, .slice ag t.gauges.length cg, .int .i64 t.wrong, .int .i64 t.frm, .int .i64 t.ticks, .slice ak t.ctrs.length ck, .slice ae t.fcs.length ce, .int .i64 t.least, .int .i64 t.most, .int .i64 t.rate, .int .i64 t.quorum, .int .i64 now, .slice aw t.ticks.toNat cw, .slice ax t.ctrs.length cx, .slice none 0 0] 123, rowI (.slice aw t.ticks.toNat cw) 74 2 t.ticks.toNat ((tidesS t).flatMap spanC), rowI (.slice ax t.ctrs.length cx) 3 1 t.ctrs.length ((curS t now).flatMap Bx.encI)])) := by
 obtain ⟨hT, hG, hw64, hf64, hk64, hC, hF, hl64, hm64, hr64, hq64⟩ := RSgt.parts h
 obtain ⟨av, cvv, rfl, hvc, hvm, -⟩ := id hsv
 refine enter Tryz.func69 rfl Tryz.ntmps69 rfl ?_
 have hS := St.start w0
 refine seq <| region ?_
 refine sbox hS rfl rfl ?_; clear hS; intro b3 w hS
 refine sbox hS rfl rfl ?_; clear hS; intro b5 w hS
 refine sv (yAsg rfl) <| sv (yAsg rfl) <| nil <| cwQ <| seq <| region <| sv (yLdBA rfl Tryz.isAgg29 Tryz.sizeOf29 (hS.at _) rfl rfl) <| sv (yMove rfl) ?_
 refine scall Tryz.call63 (.cons rfl (.cons rfl .nil)) (c_with (h.ext hS.ext) hI) ?_
 rintro _ w (⟨he, rfl, hE⟩ | ⟨he, bk, aw, cw, ax, cx, rfl, hM⟩)
 ·
  replace hS := hS.step hE; clear hE
  refine sv (yMove rfl) <| sv (yExt rfl rfl) <| sv (yExt rfl rfl) <| sv (yAsg rfl) <| sv (yAsg rfl) <| nil <| cwQ <| seq <| seq ?_
  refine region <| sv (yMove rfl) <| sv (yEql rfl rfl) <| sv (yMove rfl) ?_
  refine sg rfl rfl rfl (fun g => (fa41_0 rfl)) (fun v19 g19 => ?_)
  refine sg rfl rfl rfl (fun g => (yLdB (g19.1 g) Tryz.isAgg3 (hS.at _) rfl)) (fun v20 g20 => ?_)
  refine sg rfl rfl rfl (fun g => (fa29_3 rfl)) (fun v21 g21 => ?_)
  refine sg rfl rfl rfl (fun g => (yLdB (g21.1 g) Tryz.isAgg3 (hS.at _) rfl)) (fun v22 g22 => ?_)
  refine sg rfl rfl rfl (fun g => (yNeq (g20.1 g) (g22.1 g))) (fun v23 g23 => ?_)
  refine sg rfl rfl rfl (fun g => (yMove (g23.1 g))) (fun v24 g24 => ?_)
  refine sgg rfl rfl g24 (fun g => (fa41_1 rfl)) (fun v25 g25 => ?_)
  refine sgg rfl rfl g24 (fun g => (yLdB (g25.1 g) Tryz.isAgg39 (hS.at _) rfl)) (fun v26 g26 => ?_)
  refine sgg rfl rfl g24 (fun g => (yLen (g26.1 g) Tryz.underlying39)) (fun v27 g27 => ?_)
  refine sgg rfl rfl g24 (fun g => (fa29_4 rfl)) (fun v28 g28 => ?_)
  refine sgg rfl rfl g24 (fun g => (yLdB (g28.1 g) Tryz.isAgg3 (hS.at _) rfl)) (fun v29 g29 => ?_)
  refine sgg rfl rfl g24 (fun g => (yNeq (g27.1 g) (g29.1 g))) (fun v30 g30 => ?_)
  refine sg rfl rfl rfl (fun g => (yOr (g24.1 g) rfl (fun hB => (g30.1 ⟨g, hB⟩)))) (fun v31 g31 => ?_)
  refine sg rfl rfl rfl (fun g => (yMove (g31.1 g))) (fun v32 g32 => ?_)
  refine sgg rfl rfl g32 (fun g => (fa41_1 rfl)) (fun v33 g33 => ?_)
  refine sgg rfl rfl g32 (fun g => (yLdB (g33.1 g) Tryz.isAgg39 (hS.at _) rfl)) (fun v34 g34 => ?_)
  refine sggc hS rfl rfl g32 Tryz.call108 (fun g => (.cons (g34.1 g) (.cons rfl .nil))) (fun g => (c_ContainsFuncInt (l := s.vals) (p := fun v => outB v (-20000) 20000) (cl := []) (hsv.ext RInt.stays hS.ext) Tryz.call130 (fun x cs w2 hx he hR => c_his1 ((hg.ext hS.ext).ext he)))) ?_; clear hS; intro v35 w hS g35
  refine sg rfl rfl rfl (fun g => (yOr (g32.1 g) rfl (fun hB => (g35.1 ⟨g, hB⟩)))) (fun v36 g36 => ?_)
  refine sv (yAnd rfl (fun hB => (g36.1 hB)) rfl) <| nil <| cwQ ?_
  refine cond rfl (fun c37 => ?_) (fun c37 => ?_)
  ·
   refine region <| sv (yAsg rfl) <| nil <| cwQ <| seq <| region <| sv (yMove rfl) <| sv (yMove rfl) <| sv (yAsg rfl) ?_
   refine sv (yAsg rfl) <| nil <| cwQ <| wp_ret <| retQ (res2 rfl rfl rfl) ?_
   exfalso
   rw [decide_eq_false he] at c37
   cases c37
  ·
   refine skip <| cwQ <| seq <| region <| sv (yMove rfl) <| sv (yMove rfl) <| sv (yAsg rfl) <| sv (yAsg rfl) <| nil ?_
   refine cwQ <| wp_ret <| retQ (res2 rfl rfl rfl) ?_
   have hf : hisE t now s = askE t now := by unfold hisE; rw [if_pos he]
   exact .inl ⟨by rw [hf]; exact he, _, by rw [hf]; rfl, hS.ext⟩
 ·
  replace hS := hS.call hM; clear hM
  replace hS : StX [] w0 w [blk bk [.int .i64 t.table.mean, cv, .slice ag t.gauges.length cg, .int .i64 t.wrong, .int .i64 t.frm, .int .i64 t.ticks, .slice ak t.ctrs.length ck, .slice ae t.fcs.length ce, .int .i64 t.least, .int .i64 t.most, .int .i64 t.rate, .int .i64 t.quorum, .int .i64 now, .slice aw t.ticks.toNat cw, .slice ax t.ctrs.length cx, .slice none 0 0] 123, rowI (.slice aw t.ticks.toNat cw) 74 2 t.ticks.toNat ((tidesS t).flatMap spanC), rowI (.slice ax t.ctrs.length cx) 3 1 t.ctrs.length ((curS t now).flatMap Bx.encI), blk b5 [.int .i64 s.frm, .slice av s.vals.length cvv] 41, blk b3 [.int .i64 t.table.mean, cv, .slice ag t.gauges.length cg, .int .i64 t.wrong, .int .i64 t.frm, .int .i64 t.ticks, .slice ak t.ctrs.length ck, .slice ae t.fcs.length ce, .int .i64 t.least, .int .i64 t.most, .int .i64 t.rate, .int .i64 t.quorum] 29] := hS
  obtain ⟨hok, hnow⟩ := askE_ok he
  have htk := hok.tk
  have hnc := hok.nc
  have hnf := hok.nf
  refine sv (yMove rfl) <| sv (yExt rfl rfl) <| sv (yExt rfl rfl) <| sv (yAsg rfl) <| sv (yAsg rfl) <| nil <| cwQ <| seq <| seq ?_
  refine region <| sv (yMove rfl) <| sv (yEql rfl rfl) <| sv (yMove rfl) ?_
  refine sg rfl rfl rfl (fun g => (fa41_0 rfl)) (fun v19 g19 => ?_)
  refine sg rfl rfl rfl (fun g => (yLdB (g19.1 g) Tryz.isAgg3 (hS.at _) rfl)) (fun v20 g20 => ?_)
  refine sg rfl rfl rfl (fun g => (fa29_3 rfl)) (fun v21 g21 => ?_)
  refine sg rfl rfl rfl (fun g => (yLdB (g21.1 g) Tryz.isAgg3 (hS.at _) rfl)) (fun v22 g22 => ?_)
  refine sg rfl rfl rfl (fun g => (yNeq (g20.1 g) (g22.1 g))) (fun v23 g23 => ?_)
  refine sg rfl rfl rfl (fun g => (yMove (g23.1 g))) (fun v24 g24 => ?_)
  refine sgg rfl rfl g24 (fun g => (fa41_1 rfl)) (fun v25 g25 => ?_)
  refine sgg rfl rfl g24 (fun g => (yLdB (g25.1 g) Tryz.isAgg39 (hS.at _) rfl)) (fun v26 g26 => ?_)
  refine sgg rfl rfl g24 (fun g => (yLen (g26.1 g) Tryz.underlying39)) (fun v27 g27 => ?_)
  refine sgg rfl rfl g24 (fun g => (fa29_4 rfl)) (fun v28 g28 => ?_)
  refine sgg rfl rfl g24 (fun g => (yLdB (g28.1 g) Tryz.isAgg3 (hS.at _) rfl)) (fun v29 g29 => ?_)
  refine sgg rfl rfl g24 (fun g => (yNeq (g27.1 g) (g29.1 g))) (fun v30 g30 => ?_)
  refine sg rfl rfl rfl (fun g => (yOr (g24.1 g) rfl (fun hB => (g30.1 ⟨g, hB⟩)))) (fun v31 g31 => ?_)
  refine sg rfl rfl rfl (fun g => (yMove (g31.1 g))) (fun v32 g32 => ?_)
  refine sgg rfl rfl g32 (fun g => (fa41_1 rfl)) (fun v33 g33 => ?_)
  refine sgg rfl rfl g32 (fun g => (yLdB (g33.1 g) Tryz.isAgg39 (hS.at _) rfl)) (fun v34 g34 => ?_)
  refine sggc hS rfl rfl g32 Tryz.call108 (fun g => (.cons (g34.1 g) (.cons rfl .nil))) (fun g => (c_ContainsFuncInt (l := s.vals) (p := fun v => outB v (-20000) 20000) (cl := []) (hsv.ext RInt.stays hS.ext) Tryz.call130 (fun x cs w2 hx he hR => c_his1 ((hg.ext hS.ext).ext he)))) ?_; clear hS; intro v35 w hS g35
  refine sg rfl rfl rfl (fun g => (yOr (g32.1 g) rfl (fun hB => (g35.1 ⟨g, hB⟩)))) (fun v36 g36 => ?_)
  refine sv (yAnd rfl (fun hB => (g36.1 hB)) rfl) <| nil <| cwQ ?_
  refine cond rfl (fun c37 => ?_) (fun c37 => ?_)
  ·
   refine region <| sv (yAsg rfl) <| nil <| cwQ <| seq <| region <| sv (yMove rfl) <| sv (yMove rfl) <| sv (yAsg rfl) ?_
   refine sv (yAsg rfl) <| nil <| cwQ <| wp_ret <| retQ (res2 rfl rfl rfl) ?_
   have hb : hisBad t s = true := c37
   have hf : hisE t now s = 2 := by unfold hisE; rw [if_neg (fun k => k he), if_pos hb]
   exact .inl ⟨by rw [hf]; decide, _, by rw [hf]; rfl, hS.ext⟩
  ·
   refine skip <| cwQ <| seq <| region <| sv (yMove rfl) <| sv (yMove rfl) <| sv (yAsg rfl) <| sv (yAsg rfl) <| nil ?_
   refine cwQ <| wp_ret <| retQ (res2 rfl rfl rfl) ?_
   have hb : hisBad t s = false := c37
   have hf : hisE t now s = 0 := by unfold hisE; rw [if_neg (fun k => k he), if_neg (by rw [hb]; decide)]
   exact .inr ⟨hf, bk, aw, cw, ax, cx, rfl, hS.sub (.cons_cons _ (.cons_cons _ (.cons_cons _ (List.nil_sublist _))))⟩
set_option maxHeartbeats 2000000 in
theorem c_Right {t : Sgt} {cv : Value} {ag ak ae : Option Addr} {cg ck ce : Nat} {now : Int} {s : Ser} {vv : Value} {w0 : World} (h : RSgt w0 [.int .i64 t.table.mean, cv, .slice ag t.gauges.length cg, .int .i64 t.wrong, .int .i64 t.frm, .int .i64 t.ticks, .slice ak t.ctrs.length ck, .slice ae t.fcs.length ce, .int .i64 t.least, .int .i64 t.most, .int .i64 t.rate, .int .i64 t.quorum] t) (hg : Glb w0) (hI : I64 now) (hsf : I64 s.frm) (hsv : Sl w0 1 RInt vv s.vals) : CE Tryz.prog 30 #[.agg [.int .i64 t.table.mean, cv, .slice ag t.gauges.length cg, .int .i64 t.wrong, .int .i64 t.frm, .int .i64 t.ticks, .slice ak t.ctrs.length ck, .slice ae t.fcs.length ce, .int .i64 t.least, .int .i64 t.most, .int .i64 t.rate, .int .i64 t.quorum].toArray, .int .i64 now, .agg [.int .i64 s.frm, vv].toArray] w0 (fun u w' => ∃ v its, u = .tuple #[v, .int .i64 (rigR t now s).2] ∧ (∀ w2 : World, (∀ it ∈ its, it.ok w2) → Sl w2 1 RBool v ((rigR t now s).1)) ∧ St w0 w' [packI its]) := by
 obtain ⟨hT, hG, hw64, hf64, hk64, hC, hF, hl64, hm64, hr64, hq64⟩ := RSgt.parts h
 obtain ⟨av, cvv, rfl, hvc, hvm, -⟩ := id hsv
 refine enter Tryz.func30 rfl Tryz.ntmps30 rfl ?_
 have hS := St.start w0
 refine seq <| region ?_
 refine sbox hS rfl rfl ?_; clear hS; intro b3 w hS
 refine sbox hS rfl rfl ?_; clear hS; intro b5 w hS
 refine sv (yAsg rfl) <| sv (yAsg rfl) <| nil <| cwQ <| seq <| region <| sv (yLdBA rfl Tryz.isAgg29 Tryz.sizeOf29 (hS.at _) rfl rfl) <| sv (yMove rfl) <| sv (yLdBA rfl Tryz.isAgg41 Tryz.sizeOf41 (hS.at _) rfl rfl) ?_
 refine scall Tryz.call69 (.cons rfl (.cons rfl (.cons rfl .nil))) (c_history (h.ext hS.ext) (hg.ext hS.ext) hI hsf (hsv.ext RInt.stays hS.ext)) ?_
 rintro _ w (⟨he, p, rfl, hE⟩ | ⟨he, bk, aw, cw, ax, cx, rfl, hM⟩)
 ·
  replace hS := hS.step hE; clear hE
  refine sv (yMove rfl) <| sv (yExt rfl rfl) <| sv (yExt rfl rfl) <| sv (yAsg rfl) <| sv (yAsg rfl) <| nil <| cwQ <| seq <| seq ?_
  refine region <| sv (yMove rfl) <| sv (yNeq rfl rfl) <| nil <| cwQ ?_
  refine cond rfl (fun c20 => ?_) (fun c20 => ?_)
  ·
   simp only [BS, ne_eq] at c20
   refine seq <| region <| sv (yMove rfl) <| sv (yAsg rfl) <| sv (yAsg rfl) <| nil <| cwQ ?_
   refine wp_ret (thenR ?_)
   refine retQ (res2 rfl rfl rfl) ?_
   have hf : rigR t now s = ([], hisE t now s) := by unfold rigR; rw [if_pos he]
   rw [hf]
   exact ⟨_, [], rfl, fun _ _ => sl_none, its0 hS⟩
  ·
   simp only [BS, ne_eq] at c20
   exact absurd c20 he
 ·
  replace hS := hS.call hM; clear hM
  replace hS : StX [] w0 w [blk bk [.int .i64 t.table.mean, cv, .slice ag t.gauges.length cg, .int .i64 t.wrong, .int .i64 t.frm, .int .i64 t.ticks, .slice ak t.ctrs.length ck, .slice ae t.fcs.length ce, .int .i64 t.least, .int .i64 t.most, .int .i64 t.rate, .int .i64 t.quorum, .int .i64 now, .slice aw t.ticks.toNat cw, .slice ax t.ctrs.length cx, .slice none 0 0] 123, rowI (.slice aw t.ticks.toNat cw) 74 2 t.ticks.toNat ((tidesS t).flatMap spanC), rowI (.slice ax t.ctrs.length cx) 3 1 t.ctrs.length ((curS t now).flatMap Bx.encI), blk b5 [.int .i64 s.frm, .slice av s.vals.length cvv] 41, blk b3 [.int .i64 t.table.mean, cv, .slice ag t.gauges.length cg, .int .i64 t.wrong, .int .i64 t.frm, .int .i64 t.ticks, .slice ak t.ctrs.length ck, .slice ae t.fcs.length ce, .int .i64 t.least, .int .i64 t.most, .int .i64 t.rate, .int .i64 t.quorum] 29] := hS
  obtain ⟨hok, hnow, hfq, hvl, hvb⟩ := hisE_ok he
  refine sv (yMove rfl) <| sv (yExt rfl rfl) <| sv (yExt rfl rfl) <| sv (yAsg rfl) <| sv (yAsg rfl) <| nil <| cwQ <| seq <| seq ?_
  refine region <| sv (yMove rfl) <| sv (yNeq rfl rfl) <| nil <| cwQ ?_
  refine cond rfl (fun c20 => ?_) (fun c20 => ?_)
  ·
   exact absurd c20 (by decide)
  ·
   refine skip <| cwQ <| seq <| region <| sv (yMove rfl) <| sv (fa41_1 rfl) <| sv (yLdB rfl Tryz.isAgg39 (hS.at _) rfl) ?_
   refine scall Tryz.call76 (.cons rfl (.cons rfl .nil)) (c_right ⟨cv, ag, cg, ak, ck, ae, ce, aw, cw, ax, cx, hS.at bk, RTable.stays _ _ _ _ hS.ext hT, hG.ext RGauge.stays hS.ext, hC.ext RCtr.stays hS.ext, hF.ext RFct.stays hS.ext, sl_spans (hS.row (.slice aw t.ticks.toNat cw)) (tidesS_len ..) (lbd_i64 (tides_lbd hok)), sl_ints (hS.row (.slice ax t.ctrs.length cx)) (curS_len ..) (cur_i64 hok)⟩ hok (hg.ext hS.ext) (hsv.ext RInt.stays hS.ext) hvl) ?_
   rintro _ w ⟨rv, rfl, hM⟩; replace hS := hS.call1 hM; clear hM
   refine sv (yMove rfl) <| sv (yExt rfl rfl) <| sv (yExt rfl rfl) <| sv (yAsg rfl) <| sv (yAsg rfl) <| nil <| cwQ <| seq <| region ?_
   refine sv (yMove rfl) <| sv (yAsg rfl) <| sv (yAsg rfl) <| nil <| cwQ <| wp_ret <| retQ (res2 rfl rfl rfl) ?_
   have hf : rigR t now s = (rightS t now s.vals, 0) := by unfold rigR; rw [if_neg (fun k => k he)]
   rw [hf]
   exact ⟨_, [rowI rv 4 1 t.ctrs.length ((rightS t now s.vals).flatMap encB)], rfl, fun w2 hi => sl_bools (hi (rowI rv 4 1 t.ctrs.length ((rightS t now s.vals).flatMap encB)) (by simp)) right_len, its1 hS⟩
set_option maxHeartbeats 2000000 in
theorem c_Is {t : Sgt} {cv : Value} {ag ak ae : Option Addr} {cg ck ce : Nat} {now : Int} {s : Ser} {vv : Value} {w0 : World} (h : RSgt w0 [.int .i64 t.table.mean, cv, .slice ag t.gauges.length cg, .int .i64 t.wrong, .int .i64 t.frm, .int .i64 t.ticks, .slice ak t.ctrs.length ck, .slice ae t.fcs.length ce, .int .i64 t.least, .int .i64 t.most, .int .i64 t.rate, .int .i64 t.quorum] t) (hg : Glb w0) (hI : I64 now) (hsf : I64 s.frm) (hsv : Sl w0 1 RInt vv s.vals) : CV Tryz.prog 26 #[.agg [.int .i64 t.table.mean, cv, .slice ag t.gauges.length cg, .int .i64 t.wrong, .int .i64 t.frm, .int .i64 t.ticks, .slice ak t.ctrs.length ck, .slice ae t.fcs.length ce, .int .i64 t.least, .int .i64 t.most, .int .i64 t.rate, .int .i64 t.quorum].toArray, .int .i64 now, .agg [.int .i64 s.frm, vv].toArray] w0 (.tuple #[.bool (isR t now s).1, .int .i64 (isR t now s).2]) := by
 obtain ⟨hT, hG, hw64, hf64, hk64, hC, hF, hl64, hm64, hr64, hq64⟩ := RSgt.parts h
 obtain ⟨av, cvv, rfl, hvc, hvm, -⟩ := id hsv
 refine enter Tryz.func26 rfl Tryz.ntmps26 rfl ?_
 have hS := St.start w0
 refine seq <| region ?_
 refine sbox hS rfl rfl ?_; clear hS; intro b3 w hS
 refine sbox hS rfl rfl ?_; clear hS; intro b5 w hS
 refine sv (yAsg rfl) <| sv (yAsg rfl) <| nil <| cwQ <| seq <| region <| sv (yLdBA rfl Tryz.isAgg29 Tryz.sizeOf29 (hS.at _) rfl rfl) <| sv (yMove rfl) <| sv (yLdBA rfl Tryz.isAgg41 Tryz.sizeOf41 (hS.at _) rfl rfl) ?_
 refine scall Tryz.call69 (.cons rfl (.cons rfl (.cons rfl .nil))) (c_history (h.ext hS.ext) (hg.ext hS.ext) hI hsf (hsv.ext RInt.stays hS.ext)) ?_
 rintro _ w (⟨he, p, rfl, hE⟩ | ⟨he, bk, aw, cw, ax, cx, rfl, hM⟩)
 ·
  replace hS := hS.step hE; clear hE
  refine sv (yMove rfl) <| sv (yExt rfl rfl) <| sv (yExt rfl rfl) <| sv (yAsg rfl) <| sv (yAsg rfl) <| nil <| cwQ <| seq <| seq ?_
  refine region <| sv (yMove rfl) <| sv (yNeq rfl rfl) <| nil <| cwQ ?_
  refine cond rfl (fun c18 => ?_) (fun c18 => ?_)
  ·
   simp only [BS, ne_eq] at c18
   refine seq <| region <| sv (yMove rfl) <| sv (yAsg rfl) <| sv (yAsg rfl) <| nil <| cwQ ?_
   have hf : isR t now s = (false, hisE t now s) := by unfold isR; rw [if_pos he]
   refine wp_ret (thenR ?_)
   exact retV (res2 rfl (by rw [hf]; rfl) (by rw [hf]; rfl)) hS.ext
  ·
   simp only [BS, ne_eq] at c18
   exact absurd c18 he
 ·
  replace hS := hS.call hM; clear hM
  replace hS : StX [] w0 w [blk bk [.int .i64 t.table.mean, cv, .slice ag t.gauges.length cg, .int .i64 t.wrong, .int .i64 t.frm, .int .i64 t.ticks, .slice ak t.ctrs.length ck, .slice ae t.fcs.length ce, .int .i64 t.least, .int .i64 t.most, .int .i64 t.rate, .int .i64 t.quorum, .int .i64 now, .slice aw t.ticks.toNat cw, .slice ax t.ctrs.length cx, .slice none 0 0] 123, rowI (.slice aw t.ticks.toNat cw) 74 2 t.ticks.toNat ((tidesS t).flatMap spanC), rowI (.slice ax t.ctrs.length cx) 3 1 t.ctrs.length ((curS t now).flatMap Bx.encI), blk b5 [.int .i64 s.frm, .slice av s.vals.length cvv] 41, blk b3 [.int .i64 t.table.mean, cv, .slice ag t.gauges.length cg, .int .i64 t.wrong, .int .i64 t.frm, .int .i64 t.ticks, .slice ak t.ctrs.length ck, .slice ae t.fcs.length ce, .int .i64 t.least, .int .i64 t.most, .int .i64 t.rate, .int .i64 t.quorum] 29] := hS
  obtain ⟨hok, hnow, hfq, hvl, hvb⟩ := hisE_ok he
  refine sv (yMove rfl) <| sv (yExt rfl rfl) <| sv (yExt rfl rfl) <| sv (yAsg rfl) <| sv (yAsg rfl) <| nil <| cwQ <| seq <| seq ?_
  refine region <| sv (yMove rfl) <| sv (yNeq rfl rfl) <| nil <| cwQ ?_
  refine cond rfl (fun c18 => ?_) (fun c18 => ?_)
  ·
   exact absurd c18 (by decide)
  ·
   refine skip <| cwQ <| seq <| region <| sv (yMove rfl) <| sv (fa41_1 rfl) <| sv (yLdB rfl Tryz.isAgg39 (hS.at _) rfl) ?_
   refine scall Tryz.call70 (.cons rfl (.cons rfl .nil)) (c_is h hok hnow hg (.inl ⟨rfl, rfl, rfl⟩) ((hS.nilrow 74 2).perm (List.Perm.swap _ _ _)) (fun w2 _ he2 => hsv.ext RInt.stays he2) hvl (fun x hx => by have := hvb x hx; omega)) ?_
   rintro _ w ⟨rfl, ov', os', mo', hown', hM⟩; clear hS; have hS := hM; clear hM
   refine sv (yAsg rfl) <| sv (yAsg rfl) <| nil <| cwQ ?_
   have hf : isR t now s = (isS t now s.vals, 0) := by unfold isR; rw [if_neg (fun k => k he)]
   refine wp_ret ?_
   exact retV (res2 rfl (by rw [hf]; rfl) (by rw [hf]; rfl)) hS.ext
end Go.Proofs.YtgidbailiababaaGreatDoor

/- part S20 -/
namespace Bx
open Go Go.RowKit
theorem ruled_perm {w0 w : World} {E : TypeId} {a b c d p q r s x nr : Item} (h : StX [] w0 w (nr :: p :: a :: b :: c :: d :: q :: r :: s :: x :: [])) : StX [] w0 w (q :: nr :: r :: s :: p :: rowI (.slice none 0 0) E 1 0 [] :: x :: []) := by
  have h1 : StX [] w0 w [nr, p, q, r, s, x] := h.sub (.cons_cons _ (.cons_cons _ (.cons _ (.cons _ (.cons _ (.cons _ (List.Sublist.refl _)))))))
  have h2 : StX [] w0 w [rowI (.slice none 0 0) E 1 0 [], nr, p, q, r, s, x] := h1.nilrow E 1
  refine h2.perm ?_
  refine List.Perm.trans (l₂ := q :: ([rowI (.slice none 0 0) E 1 0 [], nr, p] ++ [r, s, x])) (List.perm_middle (l₁ := [_, _, _])) (List.Perm.cons _ ?_)
  refine List.Perm.trans (l₂ := nr :: ([rowI (.slice none 0 0) E 1 0 []] ++ [p, r, s, x])) (List.perm_middle (l₁ := [_])) (List.Perm.cons _ ?_)
  refine List.Perm.trans (l₂ := r :: ([rowI (.slice none 0 0) E 1 0 [], p] ++ [s, x])) (List.perm_middle (l₁ := [_, _])) (List.Perm.cons _ ?_)
  refine List.Perm.trans (l₂ := s :: ([rowI (.slice none 0 0) E 1 0 [], p] ++ [x])) (List.perm_middle (l₁ := [_, _])) (List.Perm.cons _ ?_)
  exact List.Perm.swap _ _ _
theorem ruled_in {w0 w : World} {b k r t x p q s : Item} (h : StX [] w0 w (b :: k :: r :: t :: x :: p :: q :: s :: [])) : StX [] w0 w (k :: r :: t :: x :: (b :: p :: q :: s :: [])) :=
  h.perm (List.perm_middle (l₁ := [k, r, t, x]) (l₂ := [p, q, s]) (a := b)).symm
theorem ruled_back1 {w0 w : World} {b k r t x p q s : Item} (h : StX [] w0 w (k :: r :: t :: x :: b :: p :: q :: s :: [])) : StX [] w0 w (k :: r :: t :: x :: p :: q :: s :: []) :=
  h.sub (.cons_cons _ (.cons_cons _ (.cons_cons _ (.cons_cons _ (.cons _ (List.Sublist.refl _))))))
theorem ruled_back2 {w0 w : World} {c b k r t x p q s : Item} (h : StX [] w0 w (c :: k :: r :: t :: x :: b :: p :: q :: s :: [])) : StX [] w0 w (k :: r :: t :: x :: p :: q :: s :: []) :=
  ruled_back1 (h.sub (.cons _ (List.Sublist.refl _)))
section
variable {t : Sgt} {now th : Int}
theorem rul_yes {k : Nat} (h : (!isS t now ((posS t th).getD k [])) = true) : rulL t now th (k + 1) = rulL t now th k ++ [(k : Int)] := by
  unfold rulL
  rw [List.range_succ, List.filter_append, List.map_append]
  simp only [List.filter_cons, List.filter_nil, h, if_true, List.map_cons, List.map_nil]
theorem rul_no {k : Nat} (h : isS t now ((posS t th).getD k []) = true) : rulL t now th (k + 1) = rulL t now th k := by
  unfold rulL
  rw [List.range_succ, List.filter_append, List.map_append]
  simp only [List.filter_cons, List.filter_nil, h, Bool.not_true, Bool.false_eq_true, if_false, List.map_nil, List.append_nil]
theorem rul_le {k : Nat} : (rulL t now th k).length ≤ k := by
  unfold rulL
  rw [List.length_map]
  have := List.length_filter_le (fun i => !isS t now ((posS t th).getD i [])) (List.range k)
  rwa [List.length_range] at this
theorem rul_i64 {k : Nat} (hk : k ≤ 1000 := by omega) : ∀ x ∈ rulL t now th k, I64 x := fun x hx => by
  obtain ⟨i, hi, rfl⟩ := List.mem_map.1 hx
  have := List.mem_range.1 (List.mem_filter.1 hi).1
  exact ⟨by omega, by omega⟩
theorem pos_get {k : Nat} (h : k < (posS t th).length) : (posS t th)[k]? = some ((posS t th).getD k []) := by simp [h]
theorem pos_ok (h : SgOk t) {v : List Int} (hv : v ∈ posS t th) : v.length = t.ticks.toNat ∧ ∀ x ∈ v, Bd x (-200000) 200000 := by
  obtain ⟨b, hb, rfl⟩ : ∃ b ∈ boxS t th, v = highB b := by
    unfold posS at hv
    rw [posK_eq] at hv
    obtain ⟨i, hi, rfl⟩ := List.mem_map.1 hv
    exact ⟨_, List.mem_of_getElem? (boxAt_get (keepK_lt hi)), rfl⟩
  refine ⟨(high_len hb).1, fun x hx => ?_⟩
  have h1 := (box_is h hb).2
  have h2 := ((isS_iff th (high_len hb).1).1 h1).2.1
  obtain ⟨i, hi, rfl⟩ := List.getElem_of_mem hx
  have h3 := h2.2 i (by rw [← h2.1]; exact hi)
  have h4 := base_sbd h th i
  have e : (highB b).getD i 0 = (highB b)[i] := by simp [hi]
  rw [e, spn_at (baseS_get (by rw [← (high_len hb).1]; exact hi))] at h3
  unfold SBd at h4
  exact ⟨by omega, by omega⟩
end
end Bx

/- part Sx9 -/
namespace Go.Proofs.YtgidbailiababaaGreatDoor
open Go Bx
set_option maxHeartbeats 4000000 in
theorem c_Ruled {t : Sgt} {cv : Value} {ag ak ae : Option Addr} {cg ck ce : Nat} {now th : Int} {w0 : World} (h : RSgt w0 [.int .i64 t.table.mean, cv, .slice ag t.gauges.length cg, .int .i64 t.wrong, .int .i64 t.frm, .int .i64 t.ticks, .slice ak t.ctrs.length ck, .slice ae t.fcs.length ce, .int .i64 t.least, .int .i64 t.most, .int .i64 t.rate, .int .i64 t.quorum] t) (hg : Glb w0) (hI : I64 now) (hT0 : I64 th) : CE Tryz.prog 33 #[.agg [.int .i64 t.table.mean, cv, .slice ag t.gauges.length cg, .int .i64 t.wrong, .int .i64 t.frm, .int .i64 t.ticks, .slice ak t.ctrs.length ck, .slice ae t.fcs.length ce, .int .i64 t.least, .int .i64 t.most, .int .i64 t.rate, .int .i64 t.quorum].toArray, .int .i64 th, .int .i64 now] w0 (fun u w' => ∃ v its, u = .tuple #[v, .int .i64 (rulR t now th).2] ∧ (∀ w2 : World, (∀ it ∈ its, it.ok w2) → Sl w2 1 RInt v ((rulR t now th).1)) ∧ St w0 w' [packI its]) := by
 obtain ⟨hT, hG, hw64, hf64, hk64, hC, hF, hl64, hm64, hr64, hq64⟩ := RSgt.parts h
 refine enter Tryz.func33 rfl Tryz.ntmps33 rfl ?_
 have hS := St.start w0
 refine seq <| region ?_
 refine sbox hS rfl rfl ?_; clear hS; intro b3 w hS
 refine sv (yAsg rfl) <| sv (yAsg rfl) <| nil <| cwQ <| seq <| region <| sv (yLdBA rfl Tryz.isAgg29 Tryz.sizeOf29 (hS.at _) rfl rfl) <| sv (yMove rfl) ?_
 refine scall Tryz.call63 (.cons rfl (.cons rfl .nil)) (c_with (h.ext hS.ext) hT0) ?_
 rintro _ w (⟨he, rfl, hE⟩ | ⟨he, bk, aw, cw, ax, cx, rfl, hM⟩)
 ·
  replace hS := hS.step hE; clear hE
  refine sv (yMove rfl) <| sv (yExt rfl rfl) <| sv (yExt rfl rfl) <| sv (yAsg rfl) <| sv (yAsg rfl) <| nil <| cwQ <| seq <| seq ?_
  refine region <| sv (yMove rfl) <| sv (yNeq rfl rfl) <| nil <| cwQ ?_
  refine cond rfl (fun c19 => ?_) (fun c19 => ?_)
  ·
   simp only [BS, ne_eq] at c19
   refine seq <| region <| sv (yMove rfl) <| sv (yAsg rfl) <| sv (yAsg rfl) <| nil <| cwQ ?_
   refine wp_ret (thenR ?_)
   refine retQ (res2 rfl rfl rfl) ?_
   have hE : rulE t now th = askE t th := by unfold rulE; rw [if_pos he]
   have hf : rulR t now th = ([], askE t th) := by unfold rulR; rw [hE, if_pos he]
   rw [hf]
   exact ⟨_, [], rfl, fun _ _ => sl_none, its0 hS⟩
  ·
   simp only [BS, ne_eq] at c19
   exact absurd c19 he
 ·
  replace hS := hS.call hM; clear hM
  replace hS : StX [] w0 w [blk bk [.int .i64 t.table.mean, cv, .slice ag t.gauges.length cg, .int .i64 t.wrong, .int .i64 t.frm, .int .i64 t.ticks, .slice ak t.ctrs.length ck, .slice ae t.fcs.length ce, .int .i64 t.least, .int .i64 t.most, .int .i64 t.rate, .int .i64 t.quorum, .int .i64 th, .slice aw t.ticks.toNat cw, .slice ax t.ctrs.length cx, .slice none 0 0] 123, rowI (.slice aw t.ticks.toNat cw) 74 2 t.ticks.toNat ((tidesS t).flatMap spanC), rowI (.slice ax t.ctrs.length cx) 3 1 t.ctrs.length ((curS t th).flatMap Bx.encI), blk b3 [.int .i64 t.table.mean, cv, .slice ag t.gauges.length cg, .int .i64 t.wrong, .int .i64 t.frm, .int .i64 t.ticks, .slice ak t.ctrs.length ck, .slice ae t.fcs.length ce, .int .i64 t.least, .int .i64 t.most, .int .i64 t.rate, .int .i64 t.quorum] 29] := hS
  obtain ⟨hok, hth⟩ := askE_ok he
  refine sv (yMove rfl) <| sv (yExt rfl rfl) <| sv (yExt rfl rfl) <| sv (yAsg rfl) <| sv (yAsg rfl) <| nil <| cwQ <| seq <| seq ?_
  refine region <| sv (yMove rfl) <| sv (yNeq rfl rfl) <| nil <| cwQ ?_
  refine cond rfl (fun c19 => ?_) (fun c19 => ?_)
  ·
   exact absurd c19 (by decide)
  ·
   refine skip <| cwQ <| seq <| region <| sv (yLdBA rfl Tryz.isAgg29 Tryz.sizeOf29 (hS.at _) rfl rfl) <| sv (yMove rfl) ?_
   refine scall Tryz.call63 (.cons rfl (.cons rfl .nil)) (c_with (h.ext hS.ext) hI) ?_
   rintro _ w (⟨he2, rfl, hE⟩ | ⟨he2, bk2, aw2, cw2, ax2, cx2, rfl, hM⟩)
   ·
    replace hS := hS.step hE; clear hE
    refine sv (yMove rfl) <| sv (yExt rfl rfl) <| sv (yExt rfl rfl) <| sv (yAsg rfl) <| sv (yAsg rfl) <| nil <| cwQ <| seq <| seq ?_
    refine region <| sv (yMove rfl) <| sv (yNeq rfl rfl) <| nil <| cwQ ?_
    refine cond rfl (fun c28 => ?_) (fun c28 => ?_)
    ·
     simp only [BS, ne_eq] at c28
     refine seq <| region <| sv (yMove rfl) <| sv (yAsg rfl) <| sv (yAsg rfl) <| nil <| cwQ ?_
     refine wp_ret (thenR ?_)
     refine retQ (res2 rfl rfl rfl) ?_
     have hE : rulE t now th = askE t now := by unfold rulE; rw [if_neg (fun k => k he), if_pos he2]
     have hf : rulR t now th = ([], askE t now) := by unfold rulR; rw [hE, if_pos he2]
     rw [hf]
     exact ⟨_, [], rfl, fun _ _ => sl_none, its0 hS⟩
    ·
     simp only [BS, ne_eq] at c28
     exact absurd c28 he2
   ·
    replace hS := hS.call hM; clear hM
    replace hS : StX [] w0 w [blk bk2 [.int .i64 t.table.mean, cv, .slice ag t.gauges.length cg, .int .i64 t.wrong, .int .i64 t.frm, .int .i64 t.ticks, .slice ak t.ctrs.length ck, .slice ae t.fcs.length ce, .int .i64 t.least, .int .i64 t.most, .int .i64 t.rate, .int .i64 t.quorum, .int .i64 now, .slice aw2 t.ticks.toNat cw2, .slice ax2 t.ctrs.length cx2, .slice none 0 0] 123, rowI (.slice aw2 t.ticks.toNat cw2) 74 2 t.ticks.toNat ((tidesS t).flatMap spanC), rowI (.slice ax2 t.ctrs.length cx2) 3 1 t.ctrs.length ((curS t now).flatMap Bx.encI), blk bk [.int .i64 t.table.mean, cv, .slice ag t.gauges.length cg, .int .i64 t.wrong, .int .i64 t.frm, .int .i64 t.ticks, .slice ak t.ctrs.length ck, .slice ae t.fcs.length ce, .int .i64 t.least, .int .i64 t.most, .int .i64 t.rate, .int .i64 t.quorum, .int .i64 th, .slice aw t.ticks.toNat cw, .slice ax t.ctrs.length cx, .slice none 0 0] 123, rowI (.slice aw t.ticks.toNat cw) 74 2 t.ticks.toNat ((tidesS t).flatMap spanC), rowI (.slice ax t.ctrs.length cx) 3 1 t.ctrs.length ((curS t th).flatMap Bx.encI), blk b3 [.int .i64 t.table.mean, cv, .slice ag t.gauges.length cg, .int .i64 t.wrong, .int .i64 t.frm, .int .i64 t.ticks, .slice ak t.ctrs.length ck, .slice ae t.fcs.length ce, .int .i64 t.least, .int .i64 t.most, .int .i64 t.rate, .int .i64 t.quorum] 29] := hS
    obtain ⟨-, hnow⟩ := askE_ok he2
    refine sv (yMove rfl) <| sv (yExt rfl rfl) <| sv (yExt rfl rfl) <| sv (yAsg rfl) <| sv (yAsg rfl) <| nil <| cwQ <| seq <| seq ?_
    refine region <| sv (yMove rfl) <| sv (yNeq rfl rfl) <| nil <| cwQ ?_
    refine cond rfl (fun c28 => ?_) (fun c28 => ?_)
    ·
     exact absurd c28 (by decide)
    ·
     refine skip <| cwQ <| seq <| seq <| region <| sv (yMove rfl) ?_
     replace hS : StX [] w0 w (blk bk [.int .i64 t.table.mean, cv, .slice ag t.gauges.length cg, .int .i64 t.wrong, .int .i64 t.frm, .int .i64 t.ticks, .slice ak t.ctrs.length ck, .slice ae t.fcs.length ce, .int .i64 t.least, .int .i64 t.most, .int .i64 t.rate, .int .i64 t.quorum, .int .i64 th, .slice aw t.ticks.toNat cw, .slice ax t.ctrs.length cx, .slice none 0 0] 123 :: rowI (.slice aw t.ticks.toNat cw) 74 2 t.ticks.toNat ((tidesS t).flatMap spanC) :: rowI (.slice ax t.ctrs.length cx) 3 1 t.ctrs.length ((curS t th).flatMap Bx.encI) :: blk bk2 [.int .i64 t.table.mean, cv, .slice ag t.gauges.length cg, .int .i64 t.wrong, .int .i64 t.frm, .int .i64 t.ticks, .slice ak t.ctrs.length ck, .slice ae t.fcs.length ce, .int .i64 t.least, .int .i64 t.most, .int .i64 t.rate, .int .i64 t.quorum, .int .i64 now, .slice aw2 t.ticks.toNat cw2, .slice ax2 t.ctrs.length cx2, .slice none 0 0] 123 :: rowI (.slice aw2 t.ticks.toNat cw2) 74 2 t.ticks.toNat ((tidesS t).flatMap spanC) :: rowI (.slice ax2 t.ctrs.length cx2) 3 1 t.ctrs.length ((curS t now).flatMap Bx.encI) :: blk b3 [.int .i64 t.table.mean, cv, .slice ag t.gauges.length cg, .int .i64 t.wrong, .int .i64 t.frm, .int .i64 t.ticks, .slice ak t.ctrs.length ck, .slice ae t.fcs.length ce, .int .i64 t.least, .int .i64 t.most, .int .i64 t.rate, .int .i64 t.quorum] 29 :: []) := hS.perm (List.perm_append_comm_assoc [_, _, _] [_, _, _] [_])
     refine scall Tryz.call67 (.cons rfl .nil) (c_possible h hok hth hg (.inl ⟨rfl, rfl, rfl⟩) ((hS.nilrow 74 2).perm (List.Perm.swap _ _ _))) ?_
     rintro uv w ⟨ov1, its, hit, hel, hM⟩; clear hS; have hS := hM; clear hM
     have hbn : (posS t th).length ≤ 625 := Nat.le_trans posK_le (Nat.le_trans boxL_len (cho_bd hok))
     obtain ⟨au, cu, rfl⟩ : ∃ au cu, uv = .slice au (posS t th).length cu := by
      obtain ⟨au, cu, e, -⟩ := hit w (fun it hi => hS.ok (packI its) (by simp) it hi)
      exact ⟨au, cu, by rw [e, List.length_map]⟩
     replace hS := ruled_perm (E := 3) (hS.nilrow 74 2)
     refine sv (yLen rfl Tryz.underlying45) <| sv (yMove rfl) <| nil <| cwQ <| block <| loop (fun f w zz => ∃ (k : Nat) (pv ov : Value) (os : List Span) (mo : Nat), f 6 = pv ∧ f 9 = .pointer (some ⟨bk2, 0, none⟩) ∧ f 31 = .slice au (posS t th).length cu ∧ f 32 = .int .i64 ((posS t th).length : Int) ∧ f 33 = .int .i64 (k : Int) ∧ StX [] w0 w (blk bk2 [.int .i64 t.table.mean, cv, .slice ag t.gauges.length cg, .int .i64 t.wrong, .int .i64 t.frm, .int .i64 t.ticks, .slice ak t.ctrs.length ck, .slice ae t.fcs.length ce, .int .i64 t.least, .int .i64 t.most, .int .i64 t.rate, .int .i64 t.quorum, .int .i64 now, .slice aw2 t.ticks.toNat cw2, .slice ax2 t.ctrs.length cx2, ov] 123 :: rowI (ov) 74 2 mo ((os).flatMap spanC) :: rowI (.slice aw2 t.ticks.toNat cw2) 74 2 t.ticks.toNat ((tidesS t).flatMap spanC) :: rowI (.slice ax2 t.ctrs.length cx2) 3 1 t.ctrs.length ((curS t now).flatMap Bx.encI) :: packI its :: rowI (pv) 3 1 (rulL t now th k).length ((rulL t now th k).flatMap Bx.encI) :: blk b3 [.int .i64 t.table.mean, cv, .slice ag t.gauges.length cg, .int .i64 t.wrong, .int .i64 t.frm, .int .i64 t.ticks, .slice ak t.ctrs.length ck, .slice ae t.fcs.length ce, .int .i64 t.least, .int .i64 t.most, .int .i64 t.rate, .int .i64 t.quorum] 29 :: []) ∧ (k ≤ (posS t th).length) ∧ ((os = [] ∧ mo = 0 ∧ ov = .slice none 0 0) ∨ (os = baseS t now ∧ mo = t.ticks.toNat)) ∧ zz = (posS t th).length - k) _ ⟨_, rfl, 0, _, _, [], 0, rfl, rfl, rfl, rfl, rfl, hS, (Nat.zero_le _), (.inl ⟨rfl, rfl, rfl⟩), rfl⟩ ?_
     clear hS
     rintro f w _ ⟨k, pv, ov, os, mo, h6, h9, h31, h32, h33, hS, hk, hown, rfl⟩
     refine seq <| region <| sv (yLss h33 h32) <| nil <| cwQ <| seq ?_
     refine cond rfl (fun c34 => ?_) (fun c34 => ?_)
     ·
      simp only [BS, ne_eq] at c34
      have hkn : k < (posS t th).length := by omega
      obtain ⟨vi, hvi⟩ := hel k hkn
      obtain ⟨⟨gu, cpu, heu, hcu⟩, hvs⟩ := hvi w (fun it hi => hS.ok (packI its) (by simp) it hi)
      obtain ⟨avk, cvk, rfl, -⟩ := id hvs
      have hau : au = some ⟨gu, 0, none⟩ := by cases heu; rfl
      have hrl : (rulL t now th k).length ≤ k := rul_le
      have hpl := pos_ok hok (List.mem_of_getElem? (pos_get hkn))
      refine skip <| cwQ <| seq <| block <| seq <| region <| sv (yMove h33) <| sv (yIxa h31 hau h33 Tryz.runUnderlying45 Tryz.sizeOf41 (by omega) (by omega)) <| sv (yLdA rfl Tryz.isAgg41 Tryz.sizeOf41 hcu rfl) ?_
      refine salloc hS Tryz.zeroValue41 rfl ?_; clear hS; intro b11 w hS
      refine sv (yAsg rfl) ?_
      refine sst hS rfl rfl Tryz.sizeOf41 rfl rfl rfl rfl ?_; clear hS; intro w hS
      refine nil <| cwQ <| seq <| region ?_
      replace hS := ruled_in hS
      refine sv (yMove h9) <| sv (fa41_1 rfl) <| sv (yLdB rfl Tryz.isAgg39 (hS.at _) rfl) ?_
      refine scall Tryz.call70 (.cons rfl (.cons rfl .nil)) (c_is (v := ((posS t th).getD k [])) h hok hnow hg hown hS (fun w2 hi2 _ => (hvi w2 (fun it hi => hi2 (packI its) (by simp) it hi)).2) hpl.1 hpl.2) ?_
      rintro _ w ⟨rfl, ov', os', mo', hown', hM⟩; clear hS; have hS := hM; clear hM
      refine sv (yNot rfl) <| nil <| cwQ ?_
      refine cond rfl (fun c42 => ?_) (fun c42 => ?_)
      ·
       have hisv : isS t now ((posS t th).getD k []) = false := by cases hh : isS t now ((posS t th).getD k []) with | false => rfl | true => rw [hh] at c42; cases c42
       refine region <| sv (yMove h6) <| sv (yMove rfl) ?_
       refine sbslice hS Tryz.underlying39 Tryz.sizeOf3 rfl Tryz.zeroValue3 rfl (.cons rfl rfl .nil) rfl ?_; clear hS; intro b45 w hS
       refine sapp (bytes := 8) (size := 1) (v := pv) (m := 1) hS rfl rfl Tryz.underlying39 ti3 rfl rfl rfl rfl (by decide) (blk_cells (hS.at _)) rfl rfl (by omega) (by omega) ?_; clear hS; intro v46 w hS
       refine sv (yAsg rfl) <| nil <| cwQ <| region <| sv (yAdd h33 rfl ⟨by omega, by omega⟩) <| sv (yMove rfl) <| nil ?_
       exact ⟨_, _, rfl, ⟨k + 1, _, ov', os', mo', rfl, h9, h31, h32, rfl, (by rw [rul_yes (by rw [hisv]; rfl), List.flatMap_append, List.length_append]; exact ruled_back2 hS), (by omega), (hown'), rfl⟩, by omega⟩
      ·
       have hisv : isS t now ((posS t th).getD k []) = true := by cases hh : isS t now ((posS t th).getD k []) with | true => rfl | false => rw [hh] at c42; cases c42
       refine skip <| cwQ <| region <| sv (yAdd h33 rfl ⟨by omega, by omega⟩) <| sv (yMove rfl) <| nil ?_
       exact ⟨_, _, rfl, ⟨k + 1, _, ov', os', mo', h6, h9, h31, h32, rfl, (by rw [rul_no hisv]; exact ruled_back1 hS), (by omega), (hown'), rfl⟩, by omega⟩
     ·
      simp only [BS, ne_eq] at c34
      obtain rfl : k = (posS t th).length := by omega
      refine exit <| cwQ <| seq <| region <| sv (yMove h6) <| sv (yAsg rfl) <| sv (yAsg rfl) <| nil <| cwQ ?_
      refine wp_ret <| retQ (res2 rfl rfl rfl) ?_
      have hE : rulE t now th = 0 := by unfold rulE; rw [if_neg (fun k => k he), if_neg (fun k => k he2)]
      have hf : rulR t now th = (rulL t now th (posS t th).length, 0) := by unfold rulR; rw [hE, if_neg (by decide)]
      rw [hf]
      exact ⟨_, [rowI (pv) 3 1 (rulL t now th (posS t th).length).length ((rulL t now th (posS t th).length).flatMap Bx.encI)], rfl, fun w2 hi => sl_ints (hi (rowI (pv) 3 1 (rulL t now th (posS t th).length).length ((rulL t now th (posS t th).length).flatMap Bx.encI)) (by simp)) rfl rul_i64, its1 (hS.sub (.cons _ (.cons _ (.cons _ (.cons _ (.cons _ lrQ))))))⟩
end Go.Proofs.YtgidbailiababaaGreatDoor

/- part S21 -/
namespace Bx
open Go Go.RowKit
section
variable {t : Sgt} {now : Int}
def susK (t : Sgt) (now : Int) (k : Nat) : List Int := ((List.range k).filter (susAt t now)).map fun i => ((i : Nat) : Int)
theorem susK_yes {k : Nat} (h : susAt t now k = true) : susK t now (k + 1) = susK t now k ++ [(k : Int)] := by
  unfold susK
  rw [List.range_succ, List.filter_append, List.map_append]
  simp [h]
theorem susK_no {k : Nat} (h : susAt t now k = false) : susK t now (k + 1) = susK t now k := by
  unfold susK
  rw [List.range_succ, List.filter_append, List.map_append]
  simp [h]
theorem susK_le {k : Nat} : (susK t now k).length ≤ k := by
  unfold susK
  rw [List.length_map]
  have := List.length_filter_le (susAt t now) (List.range k)
  rwa [List.length_range] at this
theorem susK_i64 {k : Nat} (hk : k ≤ 1000 := by omega) : ∀ x ∈ susK t now k, I64 x := fun x hx => by
  obtain ⟨i, hi, rfl⟩ := List.mem_map.1 hx
  have := List.mem_range.1 (List.mem_filter.1 hi).1
  exact ⟨by omega, by omega⟩
end
theorem sus_start {w0 w : World} {E F : TypeId} {k t x b : Item} (h : StX [] w0 w [k, t, x, b]) : StX [] w0 w (k :: rowI (.slice none 0 0) E 2 0 [] :: t :: x :: rowI (.slice none 0 0) F 1 0 [] :: b :: []) := by
  have h2 := (h.nilrow F 1).nilrow E 2
  refine h2.perm ?_
  refine List.Perm.trans (l₂ := k :: ([rowI (.slice none 0 0) E 2 0 [], rowI (.slice none 0 0) F 1 0 []] ++ [t, x, b])) (List.perm_middle (l₁ := [_, _])) (List.Perm.cons _ (List.Perm.cons _ ?_))
  exact List.perm_middle (l₁ := [t, x]) (l₂ := [b]) |>.symm
theorem sus_in {w0 w : World} {b k r t x p s : Item} (h : StX [] w0 w (b :: k :: r :: t :: x :: p :: s :: [])) : StX [] w0 w (k :: r :: t :: x :: b :: p :: s :: []) := h.perm (List.perm_middle (l₁ := [k, r, t, x]) (l₂ := [p, s]) (a := b)).symm
theorem sus_back1 {w0 w : World} {b k r t x p s : Item} (h : StX [] w0 w (k :: r :: t :: x :: b :: p :: s :: [])) : StX [] w0 w (k :: r :: t :: x :: p :: s :: []) :=
  h.sub (.cons_cons _ (.cons_cons _ (.cons_cons _ (.cons_cons _ (.cons _ (List.Sublist.refl _))))))
theorem sus_back2 {w0 w : World} {c b k r t x p s : Item} (h : StX [] w0 w (c :: k :: r :: t :: x :: b :: p :: s :: [])) : StX [] w0 w (k :: r :: t :: x :: p :: s :: []) := sus_back1 (h.sub (.cons _ (List.Sublist.refl _)))
end Bx

/- part Sx10 -/
namespace Go.Proofs.YtgidbailiababaaGreatDoor
open Go Bx
set_option maxHeartbeats 4000000 in
theorem c_Suspects {t : Sgt} {cv : Value} {ag ak ae : Option Addr} {cg ck ce : Nat} {now : Int} {w0 : World} (h : RSgt w0 [.int .i64 t.table.mean, cv, .slice ag t.gauges.length cg, .int .i64 t.wrong, .int .i64 t.frm, .int .i64 t.ticks, .slice ak t.ctrs.length ck, .slice ae t.fcs.length ce, .int .i64 t.least, .int .i64 t.most, .int .i64 t.rate, .int .i64 t.quorum] t) (hg : Glb w0) (hI : I64 now) : CE Tryz.prog 35 #[.agg [.int .i64 t.table.mean, cv, .slice ag t.gauges.length cg, .int .i64 t.wrong, .int .i64 t.frm, .int .i64 t.ticks, .slice ak t.ctrs.length ck, .slice ae t.fcs.length ce, .int .i64 t.least, .int .i64 t.most, .int .i64 t.rate, .int .i64 t.quorum].toArray, .int .i64 now] w0 (fun u w' => ∃ v its, u = .tuple #[v, .int .i64 (susR t now).2] ∧ (∀ w2 : World, (∀ it ∈ its, it.ok w2) → Sl w2 1 RInt v ((susR t now).1)) ∧ St w0 w' [packI its]) := by
 obtain ⟨hT, hG, hw64, hf64, hk64, hC, hF, hl64, hm64, hr64, hq64⟩ := RSgt.parts h
 refine enter Tryz.func35 rfl Tryz.ntmps35 rfl ?_
 have hS := St.start w0
 refine seq <| region ?_
 refine sbox hS rfl rfl ?_; clear hS; intro b2 w hS
 refine sv (yAsg rfl) <| sv (yAsg rfl) <| nil <| cwQ <| seq <| region <| sv (yLdBA rfl Tryz.isAgg29 Tryz.sizeOf29 (hS.at _) rfl rfl) <| sv (yMove rfl) ?_
 refine scall Tryz.call63 (.cons rfl (.cons rfl .nil)) (c_with (h.ext hS.ext) hI) ?_
 rintro _ w (⟨he, rfl, hE⟩ | ⟨he, bk, aw, cw, ax, cx, rfl, hM⟩)
 ·
  replace hS := hS.step hE; clear hE
  refine sv (yMove rfl) <| sv (yExt rfl rfl) <| sv (yExt rfl rfl) <| sv (yAsg rfl) <| sv (yAsg rfl) <| nil <| cwQ <| seq <| seq ?_
  refine region <| sv (yMove rfl) <| sv (yNeq rfl rfl) <| nil <| cwQ ?_
  refine cond rfl (fun c20 => ?_) (fun c20 => ?_)
  ·
   simp only [BS, ne_eq] at c20
   refine seq <| region <| sv (yMove rfl) <| sv (yAsg rfl) <| sv (yAsg rfl) <| nil <| cwQ ?_
   refine wp_ret (thenR ?_)
   refine retQ (res2 rfl rfl rfl) ?_
   have hf : susR t now = ([], askE t now) := by unfold susR; rw [if_pos he]
   rw [hf]
   exact ⟨_, [], rfl, fun _ _ => sl_none, its0 hS⟩
  ·
   simp only [BS, ne_eq] at c20
   exact absurd c20 he
 ·
  replace hS := hS.call hM; clear hM
  replace hS : StX [] w0 w [blk bk [.int .i64 t.table.mean, cv, .slice ag t.gauges.length cg, .int .i64 t.wrong, .int .i64 t.frm, .int .i64 t.ticks, .slice ak t.ctrs.length ck, .slice ae t.fcs.length ce, .int .i64 t.least, .int .i64 t.most, .int .i64 t.rate, .int .i64 t.quorum, .int .i64 now, .slice aw t.ticks.toNat cw, .slice ax t.ctrs.length cx, .slice none 0 0] 123, rowI (.slice aw t.ticks.toNat cw) 74 2 t.ticks.toNat ((tidesS t).flatMap spanC), rowI (.slice ax t.ctrs.length cx) 3 1 t.ctrs.length ((curS t now).flatMap Bx.encI), blk b2 [.int .i64 t.table.mean, cv, .slice ag t.gauges.length cg, .int .i64 t.wrong, .int .i64 t.frm, .int .i64 t.ticks, .slice ak t.ctrs.length ck, .slice ae t.fcs.length ce, .int .i64 t.least, .int .i64 t.most, .int .i64 t.rate, .int .i64 t.quorum] 29] := hS
  obtain ⟨hok, hnow⟩ := askE_ok he
  have htk := hok.tk
  have hnc := hok.nc
  have hnf := hok.nf
  refine sv (yMove rfl) <| sv (yExt rfl rfl) <| sv (yExt rfl rfl) <| sv (yAsg rfl) <| sv (yAsg rfl) <| nil <| cwQ <| seq <| seq ?_
  refine region <| sv (yMove rfl) <| sv (yNeq rfl rfl) <| nil <| cwQ ?_
  refine cond rfl (fun c20 => ?_) (fun c20 => ?_)
  ·
   exact absurd c20 (by decide)
  ·
   refine skip <| cwQ <| seq <| seq <| region <| sv (yMove rfl) <| sv (yNil rfl) <| sv (fa123_3 rfl) <| sv (yLdB rfl Tryz.isAgg39 (hS.at bk) rfl) ?_
   refine sv (yLen rfl Tryz.underlying39) <| sv (yMove rfl) <| nil <| cwQ <| block <| loop (fun f w zz => ∃ (k : Nat) (pv ov : Value) (os : List Span) (mo : Nat), f 2 = .pointer (some ⟨b2, 0, none⟩) ∧ f 4 = pv ∧ f 6 = .pointer (some ⟨bk, 0, none⟩) ∧ f 25 = .slice ax t.ctrs.length cx ∧ f 26 = .int .i64 (t.ctrs.length : Int) ∧ f 27 = .int .i64 (k : Int) ∧ StX [] w0 w (blk bk [.int .i64 t.table.mean, cv, .slice ag t.gauges.length cg, .int .i64 t.wrong, .int .i64 t.frm, .int .i64 t.ticks, .slice ak t.ctrs.length ck, .slice ae t.fcs.length ce, .int .i64 t.least, .int .i64 t.most, .int .i64 t.rate, .int .i64 t.quorum, .int .i64 now, .slice aw t.ticks.toNat cw, .slice ax t.ctrs.length cx, ov] 123 :: rowI (ov) 74 2 mo ((os).flatMap spanC) :: rowI (.slice aw t.ticks.toNat cw) 74 2 t.ticks.toNat ((tidesS t).flatMap spanC) :: rowI (.slice ax t.ctrs.length cx) 3 1 t.ctrs.length ((curS t now).flatMap Bx.encI) :: rowI (pv) 3 1 (susK t now k).length ((susK t now k).flatMap Bx.encI) :: blk b2 [.int .i64 t.table.mean, cv, .slice ag t.gauges.length cg, .int .i64 t.wrong, .int .i64 t.frm, .int .i64 t.ticks, .slice ak t.ctrs.length ck, .slice ae t.fcs.length ce, .int .i64 t.least, .int .i64 t.most, .int .i64 t.rate, .int .i64 t.quorum] 29 :: []) ∧ (k ≤ t.ctrs.length) ∧ ((os = [] ∧ mo = 0 ∧ ov = .slice none 0 0) ∨ (os = baseS t now ∧ mo = t.ticks.toNat)) ∧ zz = t.ctrs.length - k) _ ⟨_, rfl, 0, _, _, [], 0, rfl, rfl, rfl, rfl, rfl, rfl, (sus_start hS), (Nat.zero_le _), (.inl ⟨rfl, rfl, rfl⟩), rfl⟩ ?_
   clear hS
   rintro f w _ ⟨k, pv, ov, os, mo, h2, h4, h6, h25, h26, h27, hS, hk, hown, rfl⟩
   refine seq <| region <| sv (yLss h27 h26) <| nil <| cwQ <| seq ?_
   refine cond rfl (fun c28 => ?_) (fun c28 => ?_)
   ·
    simp only [BS, ne_eq] at c28
    have hkl : k < t.ctrs.length := by omega
    obtain ⟨bq, oq, cq, haq, -, -, -, -⟩ := sl_at (sl_ints (hS.row (.slice ax t.ctrs.length cx)) (curS_len ..) (cur_i64 hok)) (curS_get t now hkl)
    have hsl : (susK t now k).length ≤ k := susK_le
    refine skip <| cwQ <| seq <| block <| seq <| region <| sv (yMove h27) <| sv (yIxa h25 haq h27 Tryz.runUnderlying39 Tryz.sizeOf3 (by omega) (by omega)) <| sv (yLd rfl Tryz.isAgg3 (sl_cellx (i := k) (x := curOf t now k) (sl_ints (hS.row (.slice ax t.ctrs.length cx)) (curS_len ..) (cur_i64 hok)) (curS_get t now hkl) haq)) ?_
    refine sv (yAsg rfl) <| sv (yAsg rfl) <| nil <| cwQ <| seq <| seq <| region <| sv (yMove rfl) <| sv (yLss rfl rfl) ?_
    refine nil <| cwQ ?_
    refine cond rfl (fun c33 => ?_) (fun c33 => ?_)
    ·
     simp only [BS, ne_eq] at c33
     refine exit <| cwQ <| region <| sv (yAdd h27 rfl ⟨by omega, by omega⟩) <| sv (yMove rfl) <| nil ?_
     exact ⟨_, _, rfl, ⟨k + 1, _, ov, os, mo, h2, h4, h6, h25, h26, rfl, (by rw [susK_no (by unfold susAt; rw [decide_eq_false (show ¬ 0 ≤ curOf t now k by omega)]; rfl)]; exact hS), (by omega), (hown), rfl⟩, by omega⟩
    ·
     simp only [BS, ne_eq] at c33
     obtain ⟨hcf0, hfo⟩ := cur_fct hok (show 0 ≤ curOf t now k by omega)
     obtain ⟨bf, of, csf, haf, -, hcf, hRf, -⟩ := sl_at hF (fct_get hcf0)
     obtain ⟨mv, rfl, hf1, hf2, hf3, hMm⟩ := id hRf
     obtain ⟨am, cm, rfl, hmcap, hmmx, -⟩ := id hMm
     have hnm := hfo.nm
     refine skip <| cwQ <| seq <| region <| sv (yMove h6) <| sv (yNil rfl) <| sv (fa123_0 rfl) <| sv (fa29_6 rfl) <| sv (yLdB rfl Tryz.isAgg27 (hS.at bk) rfl) ?_
     refine sv (yMove rfl) <| sv (yIxa rfl haf (rfl.trans (congrArg (Value.int .i64) (show curOf t now k = (((curOf t now k).toNat : Nat) : Int) by omega))) Tryz.runUnderlying27 Tryz.sizeOf61 (by omega) (by omega)) <| sv (yLdA rfl Tryz.isAgg61 Tryz.sizeOf61 (hcf.ext hS.ext) rfl) ?_
     refine salloc hS Tryz.zeroValue61 rfl ?_; clear hS; intro b9 w hS
     refine sst hS rfl rfl Tryz.sizeOf61 rfl rfl rfl rfl ?_; clear hS; intro w hS
     refine nil <| cwQ <| seq <| region <| sv (yAsg rfl) <| nil <| cwQ <| seq <| seq ?_
     refine region <| sv (fa61_3 rfl) <| sv (yLdB rfl Tryz.isAgg59 (hS.at _) rfl) <| sv (yLen rfl Tryz.underlying59) <| sv (yMove rfl) <| nil <| cwQ <| block <| loop (fun f w zz => ∃ (m : Nat) (can : Bool) (ov : Value) (os : List Span) (mo : Nat), f 2 = .pointer (some ⟨b2, 0, none⟩) ∧ f 4 = pv ∧ f 6 = .pointer (some ⟨bk, 0, none⟩) ∧ f 25 = .slice ax t.ctrs.length cx ∧ f 26 = .int .i64 (t.ctrs.length : Int) ∧ f 27 = .int .i64 (k : Int) ∧ f 7 = .int .i64 (k : Int) ∧ f 9 = .pointer (some ⟨b9, 0, none⟩) ∧ f 10 = .bool can ∧ f 43 = .slice am (fct t.fcs (curOf t now k).toNat).members.length cm ∧ f 44 = .int .i64 ((fct t.fcs (curOf t now k).toNat).members.length : Int) ∧ f 45 = .int .i64 (m : Int) ∧ StX [] w0 w (blk bk [.int .i64 t.table.mean, cv, .slice ag t.gauges.length cg, .int .i64 t.wrong, .int .i64 t.frm, .int .i64 t.ticks, .slice ak t.ctrs.length ck, .slice ae t.fcs.length ce, .int .i64 t.least, .int .i64 t.most, .int .i64 t.rate, .int .i64 t.quorum, .int .i64 now, .slice aw t.ticks.toNat cw, .slice ax t.ctrs.length cx, ov] 123 :: rowI (ov) 74 2 mo ((os).flatMap spanC) :: rowI (.slice aw t.ticks.toNat cw) 74 2 t.ticks.toNat ((tidesS t).flatMap spanC) :: rowI (.slice ax t.ctrs.length cx) 3 1 t.ctrs.length ((curS t now).flatMap Bx.encI) :: blk b9 [.int .i64 (fct t.fcs (curOf t now k).toNat).centre, .int .i64 (fct t.fcs (curOf t now k).toNat).issued, .int .i64 (fct t.fcs (curOf t now k).toNat).frm, .slice am (fct t.fcs (curOf t now k).toNat).members.length cm] 61 :: rowI (pv) 3 1 (susK t now k).length ((susK t now k).flatMap Bx.encI) :: blk b2 [.int .i64 t.table.mean, cv, .slice ag t.gauges.length cg, .int .i64 t.wrong, .int .i64 t.frm, .int .i64 t.ticks, .slice ak t.ctrs.length ck, .slice ae t.fcs.length ce, .int .i64 t.least, .int .i64 t.most, .int .i64 t.rate, .int .i64 t.quorum] 29 :: []) ∧ (m ≤ (fct t.fcs (curOf t now k).toNat).members.length) ∧ (can = (List.range m).any fun q => someT t.rate (meetS (baseS t now) (tubeS t (fct t.fcs (curOf t now k).toNat) (mem (fct t.fcs (curOf t now k).toNat) q)))) ∧ ((os = [] ∧ mo = 0 ∧ ov = .slice none 0 0) ∨ (os = baseS t now ∧ mo = t.ticks.toNat)) ∧ zz = (fct t.fcs (curOf t now k).toNat).members.length - m) _ ⟨_, rfl, 0, false, ov, os, mo, h2, h4, h6, h25, h26, h27, rfl, rfl, rfl, rfl, rfl, rfl, (sus_in hS), (Nat.zero_le _), (rfl), (hown), rfl⟩ ?_
     clear hS
     rintro f w _ ⟨m, can, ov, os, mo, h2, h4, h6, h25, h26, h27, h7, h9, h10, h43, h44, h45, hS, hm, hcan, hown, rfl⟩
     refine seq <| region <| sv (yLss h45 h44) <| nil <| cwQ <| seq ?_
     refine cond rfl (fun c46 => ?_) (fun c46 => ?_)
     ·
      simp only [BS, ne_eq] at c46
      have hml : m < (fct t.fcs (curOf t now k).toNat).members.length := by omega
      refine skip <| cwQ <| seq <| block <| seq <| region <| sv (yMove h45) <| sv (yAsg rfl) <| nil ?_
      refine cwQ <| seq <| region <| sv (yMove h6) ?_
      refine scall Tryz.call81 (.cons rfl .nil) (c_baseS h hok hnow hg hown hS) ?_
      rintro bv w ⟨ov', hM⟩; clear hS; have hS := hM; clear hM
      obtain ⟨gb, cb, rfl, -⟩ := row_some (hS.row bv) (by omega)
      refine sv (yAsg rfl) <| nil <| cwQ <| seq <| region <| sv (yMove rfl) <| sv (yMove h6) <| sv (yLdBA h9 Tryz.isAgg61 Tryz.sizeOf61 (hS.at _) rfl rfl) <| sv (yMove rfl) ?_
      refine scall Tryz.call83 (.cons rfl (.cons rfl (.cons rfl .nil))) (c_tubeS ⟨cv, ag, cg, ak, ck, ae, ce, aw, cw, ax, cx, hS.at bk, RTable.stays _ _ _ _ hS.ext hT, hG.ext RGauge.stays hS.ext, hC.ext RCtr.stays hS.ext, hF.ext RFct.stays hS.ext, sl_spans (hS.row (.slice aw t.ticks.toNat cw)) (tidesS_len ..) (lbd_i64 (tides_lbd hok)), sl_ints (hS.row (.slice ax t.ctrs.length cx)) (curS_len ..) (cur_i64 hok)⟩ hok (hg.ext hS.ext) hfo hml (hMm.ext RRow.stays hS.ext)) ?_
      rintro tv w hM; replace hS := hS.call1 hM; clear hM
      have htl := tubeS_lbd hok hfo hml
      refine scall Tryz.call82 (.cons rfl (.cons rfl .nil)) (c_meetS (o := 0) (ss := baseS t now) (os := tubeS t (fct t.fcs (curOf t now k).toNat) (mem (fct t.fcs (curOf t now k).toNat) m)) (hS.perm (List.Perm.swap _ _ _)) (fun q w2 h2 => sl_spans (h2.row tv) (tubeS_len ..) (lbd_i64 htl)) (by rw [tubeS_len]; exact Nat.le_refl _) (baseS_len ..) (by omega) (by omega)) ?_
      rintro _ w ⟨-, hM⟩; clear hS; have hS := hM; clear hM
      rw [meetK_all (by rw [baseS_len, tubeS_len])] at hS
      replace hS := hS.sub (.cons_cons _ (.cons _ lrQ))
      refine nil <| cwQ ?_
      rcases Bool.eq_false_or_eq_true can with hcc | hcc
      ·
       refine region <| sv (yMove h10) <| sv (yMove rfl) ?_
       refine ungn (v := .bool can) rfl rfl rfl (by rw [hcc]; simp) ?_
       refine ungn (v := .bool can) rfl rfl rfl (by rw [hcc]; simp) ?_
       refine ungn (v := .bool can) rfl rfl rfl (by rw [hcc]; simp) ?_
       refine ungn (v := .bool can) rfl rfl rfl (by rw [hcc]; simp) ?_
       refine ungn (v := .bool can) rfl rfl rfl (by rw [hcc]; simp) ?_
       refine ungn (v := .bool can) rfl rfl rfl (by rw [hcc]; simp) ?_
       refine ungn (v := .bool can) rfl rfl rfl (by rw [hcc]; simp) ?_
       refine sv (yPick (v := .bool can) (B := can) rfl (fun _ => by rw [hcc]; rfl) (fun h => absurd (hcc.symm.trans h) (by decide))) ?_
       refine sv (yAsg rfl) <| nil <| cwQ <| region <| sv (yAdd h45 rfl ⟨by omega, by omega⟩) <| sv (yMove rfl) <| nil ?_
       exact ⟨_, _, rfl, ⟨m + 1, can, ov', baseS t now, t.ticks.toNat, h2, h4, h6, h25, h26, h27, h7, h9, rfl, h43, h44, rfl, (hS.sub (.cons _ lrQ)), (by omega), (by rw [any_succ, ← hcan, hcc]; rfl), (.inr ⟨rfl, rfl⟩), rfl⟩, by omega⟩
      ·
       refine region <| sv (yMove h10) <| sv (yMove rfl) <| ungo rfl rfl (congrArg Value.bool hcc) <| sv (yMove rfl) <| ungo rfl rfl (congrArg Value.bool hcc) <| sv (yMove h6) <| ungo rfl rfl (congrArg Value.bool hcc) <| sv (yNil rfl) ?_
       refine ungo rfl rfl (congrArg Value.bool hcc) <| sv (fa123_0 rfl) <| ungo rfl rfl (congrArg Value.bool hcc) <| sv (fa29_9 rfl) <| ungo rfl rfl (congrArg Value.bool hcc) <| sv (yLdB rfl Tryz.isAgg3 (hS.at bk) rfl) <| ungo rfl rfl (congrArg Value.bool hcc) ?_
       refine scall Tryz.call84 (.cons rfl (.cons rfl .nil)) (c_tightenN (by rw [meetS_len (by rw [baseS_len, tubeS_len]), baseS_len]) hS (by omega) (meet_sbd (by rw [baseS_len, tubeS_len]) (baseS_lbd hok now) htl) ⟨rate_nn hok, by have := hok.nums4.2.2.1; omega⟩) ?_
       rintro _ w ⟨rfl, q, hq, hM⟩; clear hS; have hS := hM; clear hM
       refine sv (yPick (v := .bool (someT t.rate (meetS (baseS t now) (tubeS t (fct t.fcs (curOf t now k).toNat) (mem (fct t.fcs (curOf t now k).toNat) m))))) (B := can) rfl (fun h => absurd (hcc.symm.trans h) (by decide)) (fun _ => rfl)) <| sv (yAsg rfl) <| nil <| cwQ <| region <| sv (yAdd h45 rfl ⟨by omega, by omega⟩) <| sv (yMove rfl) <| nil ?_
       exact ⟨_, _, rfl, ⟨m + 1, _, ov', baseS t now, t.ticks.toNat, h2, h4, h6, h25, h26, h27, h7, h9, rfl, h43, h44, rfl, (hS.sub (.cons _ lrQ)), (by omega), (by rw [any_succ, ← hcan, hcc]; rfl), (.inr ⟨rfl, rfl⟩), rfl⟩, by omega⟩
     ·
      simp only [BS, ne_eq] at c46
      obtain rfl : m = (fct t.fcs (curOf t now k).toNat).members.length := by omega
      refine exit <| cwQ <| seq <| region <| sv (yMove h10) <| sv (yNot rfl) <| nil <| cwQ ?_
      refine cond rfl (fun c68 => ?_) (fun c68 => ?_)
      ·
       have hcf2 : can = false := by cases can; rfl; cases c68
       refine region <| sv (yMove h4) <| sv (yMove h7) ?_
       refine sbslice hS Tryz.underlying39 Tryz.sizeOf3 rfl Tryz.zeroValue3 rfl (.cons rfl rfl .nil) rfl ?_; clear hS; intro b71 w hS
       refine sapp (bytes := 8) (size := 1) (v := pv) (m := 1) hS rfl rfl Tryz.underlying39 ti3 rfl rfl rfl rfl (by decide) (blk_cells (hS.at _)) rfl rfl (by omega) (by omega) ?_; clear hS; intro v72 w hS
       refine sv (yAsg rfl) <| nil <| cwQ <| region <| sv (yAdd h27 rfl ⟨by omega, by omega⟩) <| sv (yMove rfl) <| nil ?_
       exact ⟨_, _, rfl, ⟨k + 1, _, ov, os, mo, h2, rfl, h6, h25, h26, rfl, (by rw [susK_yes (by unfold susAt; rw [decide_eq_true (show 0 ≤ curOf t now k by omega), ← hcan, hcf2]; rfl), List.flatMap_append, List.length_append]; exact sus_back2 hS), (by omega), (hown), rfl⟩, by omega⟩
      ·
       have hcf2 : can = true := by cases can; cases c68; rfl
       refine skip <| cwQ <| region <| sv (yAdd h27 rfl ⟨by omega, by omega⟩) <| sv (yMove rfl) <| nil ?_
       exact ⟨_, _, rfl, ⟨k + 1, _, ov, os, mo, h2, h4, h6, h25, h26, rfl, (by rw [susK_no (by unfold susAt; rw [decide_eq_true (show 0 ≤ curOf t now k by omega), ← hcan, hcf2]; rfl)]; exact sus_back1 hS), (by omega), (hown), rfl⟩, by omega⟩
   ·
    simp only [BS, ne_eq] at c28
    obtain rfl : k = t.ctrs.length := by omega
    refine exit <| cwQ <| seq <| region <| sv (yMove h4) <| sv (yAsg rfl) <| sv (yAsg rfl) <| nil <| cwQ ?_
    refine wp_ret <| retQ (res2 rfl rfl rfl) ?_
    have hf : susR t now = (susK t now t.ctrs.length, 0) := by unfold susR; rw [if_neg (fun k => k he)]; rfl
    rw [hf]
    exact ⟨_, [rowI (pv) 3 1 (susK t now t.ctrs.length).length ((susK t now t.ctrs.length).flatMap Bx.encI)], rfl, fun w2 hi => sl_ints (hi (rowI (pv) 3 1 (susK t now t.ctrs.length).length ((susK t now t.ctrs.length).flatMap Bx.encI)) (by simp)) rfl susK_i64, its1 (hS.sub (.cons _ (.cons _ (.cons _ (.cons _ lrQ)))))⟩
end Go.Proofs.YtgidbailiababaaGreatDoor

/- part Sx11 -/
namespace Go.Proofs.YtgidbailiababaaGreatDoor
open Go Bx
set_option maxHeartbeats 2000000 in
theorem c_Tube {t : Sgt} {cv : Value} {ag ak ae : Option Addr} {cg ck ce : Nat} {fi mi : Int} {w0 : World} (h : RSgt w0 [.int .i64 t.table.mean, cv, .slice ag t.gauges.length cg, .int .i64 t.wrong, .int .i64 t.frm, .int .i64 t.ticks, .slice ak t.ctrs.length ck, .slice ae t.fcs.length ce, .int .i64 t.least, .int .i64 t.most, .int .i64 t.rate, .int .i64 t.quorum] t) (hg : Glb w0) (hF0 : I64 fi) (hM0 : I64 mi) : CE Tryz.prog 41 #[.agg [.int .i64 t.table.mean, cv, .slice ag t.gauges.length cg, .int .i64 t.wrong, .int .i64 t.frm, .int .i64 t.ticks, .slice ak t.ctrs.length ck, .slice ae t.fcs.length ce, .int .i64 t.least, .int .i64 t.most, .int .i64 t.rate, .int .i64 t.quorum].toArray, .int .i64 fi, .int .i64 mi] w0 (fun u w' => ∃ v its, u = .tuple #[v, .int .i64 (tubR t fi mi).2] ∧ (∀ w2 : World, (∀ it ∈ its, it.ok w2) → Sl w2 2 RSpan v ((tubR t fi mi).1)) ∧ St w0 w' [packI its]) := by
 obtain ⟨hT, hG, hw64, hf64, hk64, hC, hF, hl64, hm64, hr64, hq64⟩ := RSgt.parts h
 have hI : I64 0 := ⟨by decide, by decide⟩
 have hask : askE t 0 = (checkS t).2.2 := by
  unfold askE
  split
  ·
   rfl
  ·
   next h => rw [if_neg (by decide)]; exact (Decidable.not_not.1 h).symm
 refine enter Tryz.func41 rfl Tryz.ntmps41 rfl ?_
 have hS := St.start w0
 refine seq <| region ?_
 refine sbox hS rfl rfl ?_; clear hS; intro b3 w hS
 refine sv (yAsg rfl) <| sv (yAsg rfl) <| nil <| cwQ <| seq <| region <| sv (yLdBA rfl Tryz.isAgg29 Tryz.sizeOf29 (hS.at _) rfl rfl) ?_
 refine scall Tryz.call63 (.cons rfl (.cons rfl .nil)) (c_with (h.ext hS.ext) hI) ?_
 rintro _ w (⟨he, rfl, hE⟩ | ⟨he, bk, aw, cw, ax, cx, rfl, hM⟩)
 ·
  replace hS := hS.step hE; clear hE
  refine sv (yMove rfl) <| sv (yExt rfl rfl) <| sv (yExt rfl rfl) <| sv (yAsg rfl) <| sv (yAsg rfl) <| nil <| cwQ <| seq <| block ?_
  refine seq <| region <| sv (yMove rfl) <| sv (yNeq rfl rfl) <| sv (yAsg rfl) <| nil <| cwQ ?_
  refine cond rfl (fun c15 => ?_) (fun c15 => ?_)
  ·
   simp only [BS, ne_eq] at c15
   refine seq <| region <| sv (yMove rfl) <| sv (yAsg rfl) <| sv (yAsg rfl) <| nil <| cwQ ?_
   refine wp_ret (blockR (thenR ?_))
   refine retQ (res2 rfl rfl rfl) ?_
   have hE : tubE t fi mi = askE t 0 := by unfold tubE; rw [← hask, if_pos he]
   have hf : tubR t fi mi = ([], askE t 0) := by unfold tubR; rw [hE, if_pos he]
   rw [hf]
   exact ⟨_, [], rfl, fun _ _ => sl_none, its0 hS⟩
  ·
   simp only [BS, ne_eq] at c15
   exact absurd c15 he
 ·
  replace hS := hS.call hM; clear hM
  replace hS : StX [] w0 w [blk bk [.int .i64 t.table.mean, cv, .slice ag t.gauges.length cg, .int .i64 t.wrong, .int .i64 t.frm, .int .i64 t.ticks, .slice ak t.ctrs.length ck, .slice ae t.fcs.length ce, .int .i64 t.least, .int .i64 t.most, .int .i64 t.rate, .int .i64 t.quorum, .int .i64 0, .slice aw t.ticks.toNat cw, .slice ax t.ctrs.length cx, .slice none 0 0] 123, rowI (.slice aw t.ticks.toNat cw) 74 2 t.ticks.toNat ((tidesS t).flatMap spanC), rowI (.slice ax t.ctrs.length cx) 3 1 t.ctrs.length ((curS t 0).flatMap Bx.encI), blk b3 [.int .i64 t.table.mean, cv, .slice ag t.gauges.length cg, .int .i64 t.wrong, .int .i64 t.frm, .int .i64 t.ticks, .slice ak t.ctrs.length ck, .slice ae t.fcs.length ce, .int .i64 t.least, .int .i64 t.most, .int .i64 t.rate, .int .i64 t.quorum] 29] := hS
  obtain ⟨hok, hnow⟩ := askE_ok he
  have htk := hok.tk
  have hnc := hok.nc
  have hnf := hok.nf
  refine sv (yMove rfl) <| sv (yExt rfl rfl) <| sv (yExt rfl rfl) <| sv (yAsg rfl) <| sv (yAsg rfl) <| nil <| cwQ <| seq <| block ?_
  refine seq <| region <| sv (yMove rfl) <| sv (yNeq rfl rfl) <| sv (yAsg rfl) <| nil <| cwQ ?_
  refine cond rfl (fun c15 => ?_) (fun c15 => ?_)
  ·
   exact absurd c15 (by decide)
  ·
   refine seq ?_
   rcases Bool.eq_false_or_eq_true (outB fi 0 (t.fcs.length - 1)) with hob | hob
   ·
    refine region <| sv (yMove rfl) <| sv (fa29_6 rfl) <| sv (yLdB rfl Tryz.isAgg27 (hS.at _) rfl) <| sv (yLen rfl Tryz.underlying27) <| sv (ySub rfl rfl ⟨by omega, by omega⟩) ?_
    refine scall Tryz.call53 (.cons rfl (.cons rfl (.cons rfl .nil))) c_outS ?_
    rintro _ w ⟨rfl, hE⟩; replace hS := hS.step hE; clear hE
    refine sv (yMove rfl) ?_
    refine ungn (v := .bool (outB fi 0 (t.fcs.length - 1))) rfl rfl rfl (by rw [hob]; simp) ?_
    refine ungn (v := .bool (outB fi 0 (t.fcs.length - 1))) rfl rfl rfl (by rw [hob]; simp) ?_
    refine ungn (v := .bool (outB fi 0 (t.fcs.length - 1))) rfl rfl rfl (by rw [hob]; simp) ?_
    refine ungn (v := .bool (outB fi 0 (t.fcs.length - 1))) rfl rfl rfl (by rw [hob]; simp) ?_
    refine ungn (v := .bool (outB fi 0 (t.fcs.length - 1))) rfl rfl rfl (by rw [hob]; simp) ?_
    refine ungn (v := .bool (outB fi 0 (t.fcs.length - 1))) rfl rfl rfl (by rw [hob]; simp) ?_
    refine ungn (v := .bool (outB fi 0 (t.fcs.length - 1))) rfl rfl rfl (by rw [hob]; simp) ?_
    refine ungn (v := .bool (outB fi 0 (t.fcs.length - 1))) rfl rfl rfl (by rw [hob]; simp) ?_
    refine ungn (v := .bool (outB fi 0 (t.fcs.length - 1))) rfl rfl rfl (by rw [hob]; simp) ?_
    refine ungn (v := .bool (outB fi 0 (t.fcs.length - 1))) rfl rfl rfl (by rw [hob]; simp) ?_
    refine sv (yPick (v := .bool (outB fi 0 (t.fcs.length - 1))) (B := outB fi 0 (t.fcs.length - 1)) rfl (fun _ => by rw [hob]; rfl) (fun h => absurd (hob.symm.trans h) (by decide))) ?_
    refine sv (yAsg rfl) <| nil <| cwQ ?_
    refine cond rfl (fun c19 => ?_) (fun c19 => ?_)
    ·
     refine seq <| region <| sv (yAsg rfl) <| sv (yAsg rfl) <| nil <| cwQ ?_
     refine wp_ret (blockR (thenR ?_))
     refine retQ (res2 rfl rfl rfl) ?_
     have hE : tubE t fi mi = 4 := by unfold tubE; rw [← hask, if_neg (fun k => k he), hob]; rfl
     have hf : tubR t fi mi = ([], 4) := by unfold tubR; rw [hE, if_pos (by decide)]
     rw [hf]
     exact ⟨_, [], rfl, fun _ _ => sl_none, its0 hS⟩
    ·
     rw [hob] at c19; cases c19
   ·
    obtain ⟨hi0, hi1⟩ := outB_false.1 hob
    have hfl : fi.toNat < t.fcs.length := by omega
    have hfo := hok.fcts hfl
    have hnm := hfo.nm
    obtain ⟨bf, of, csf, haf, -, hcf, hRf, -⟩ := sl_at hF (fct_get hfl)
    obtain ⟨mv, rfl, hf1, hf2, hf3, hMm⟩ := id hRf
    obtain ⟨am, cm, rfl, hmcap, hmmx, -⟩ := id hMm
    refine region <| sv (yMove rfl) <| sv (fa29_6 rfl) <| sv (yLdB rfl Tryz.isAgg27 (hS.at _) rfl) <| sv (yLen rfl Tryz.underlying27) <| sv (ySub rfl rfl ⟨by omega, by omega⟩) ?_
    refine scall Tryz.call53 (.cons rfl (.cons rfl (.cons rfl .nil))) c_outS ?_
    rintro _ w ⟨rfl, hE⟩; replace hS := hS.step hE; clear hE
    refine sv (yMove rfl) <| ungo rfl rfl (congrArg Value.bool hob) <| sv (yMove rfl) <| ungo rfl rfl (congrArg Value.bool hob) <| sv (fa29_6 rfl) <| ungo rfl rfl (congrArg Value.bool hob) <| sv (yLdB rfl Tryz.isAgg27 (hS.at _) rfl) <| ungo rfl rfl (congrArg Value.bool hob) <| sv (yMove rfl) ?_
    refine ungo rfl rfl (congrArg Value.bool hob) <| sv (yIxa rfl haf (rfl.trans (congrArg (Value.int .i64) (show fi = ((fi.toNat : Nat) : Int) by omega))) Tryz.runUnderlying27 Tryz.sizeOf61 (by omega) (by omega)) <| ungo rfl rfl (congrArg Value.bool hob) <| sv (fa61_3 rfl) <| ungo rfl rfl (congrArg Value.bool hob) <| sv (yLd rfl Tryz.isAgg59 ((hcf.ext hS.ext).at (j := 3) rfl)) <| ungo rfl rfl (congrArg Value.bool hob) <| sv (yLen rfl Tryz.underlying59) <| ungo rfl rfl (congrArg Value.bool hob) ?_
    refine sv (ySub rfl rfl ⟨by omega, by omega⟩) <| ungo rfl rfl (congrArg Value.bool hob) ?_
    refine scall Tryz.call53 (.cons rfl (.cons rfl (.cons rfl .nil))) c_outS ?_
    rintro _ w ⟨rfl, hE⟩; replace hS := hS.step hE; clear hE
    refine sv (yPick (v := .bool (outB mi 0 ((fct t.fcs fi.toNat).members.length - 1))) (B := outB fi 0 (t.fcs.length - 1)) rfl (fun h => absurd (hob.symm.trans h) (by decide)) (fun _ => rfl)) <| sv (yAsg rfl) <| nil <| cwQ ?_
    refine cond rfl (fun c19 => ?_) (fun c19 => ?_)
    ·
     refine seq <| region <| sv (yAsg rfl) <| sv (yAsg rfl) <| nil <| cwQ ?_
     refine wp_ret (blockR (thenR ?_))
     refine retQ (res2 rfl rfl rfl) ?_
     have hE : tubE t fi mi = 4 := by unfold tubE; rw [← hask, if_neg (fun k => k he), hob, c19]; rfl
     have hf : tubR t fi mi = ([], 4) := by unfold tubR; rw [hE, if_pos (by decide)]
     rw [hf]
     exact ⟨_, [], rfl, fun _ _ => sl_none, its0 hS⟩
    ·
     obtain ⟨hm0, hm1⟩ := outB_false.1 c19
     obtain ⟨mn, rfl⟩ : ∃ mn : Nat, mi = mn := ⟨mi.toNat, by omega⟩
     refine skip <| cwQ <| seq <| region <| sv (yMove rfl) <| sv (fa29_6 rfl) <| sv (yLdB rfl Tryz.isAgg27 (hS.at _) rfl) <| sv (yMove rfl) <| sv (yIxa rfl haf (rfl.trans (congrArg (Value.int .i64) (show fi = ((fi.toNat : Nat) : Int) by omega))) Tryz.runUnderlying27 Tryz.sizeOf61 (by omega) (by omega)) ?_
     refine sv (yLdA rfl Tryz.isAgg61 Tryz.sizeOf61 (hcf.ext hS.ext) rfl) <| sv (yMove rfl) ?_
     refine scall Tryz.call83 (.cons rfl (.cons rfl (.cons rfl .nil))) (c_tubeS (now := 0) ⟨cv, ag, cg, ak, ck, ae, ce, aw, cw, ax, cx, hS.at bk, RTable.stays _ _ _ _ hS.ext hT, hG.ext RGauge.stays hS.ext, hC.ext RCtr.stays hS.ext, hF.ext RFct.stays hS.ext, sl_spans (hS.row (.slice aw t.ticks.toNat cw)) (tidesS_len ..) (lbd_i64 (tides_lbd hok)), sl_ints (hS.row (.slice ax t.ctrs.length cx)) (curS_len ..) (cur_i64 hok)⟩ hok (hg.ext hS.ext) hfo (m := mn) (by omega) (hMm.ext RRow.stays hS.ext)) ?_
     rintro tv w hM; replace hS := hS.call1 hM; clear hM
     have htl := tubeS_lbd hok hfo (show mn < (fct t.fcs fi.toNat).members.length by omega)
     refine sv (yAsg rfl) <| sv (yAsg rfl) <| nil <| cwQ <| wp_ret <| retQ (res2 rfl rfl rfl) ?_
     have hE : tubE t fi mn = 0 := by unfold tubE; rw [← hask, if_neg (fun k => k he), hob, c19]; rfl
     have hf : tubR t fi mn = (tubeS t (fct t.fcs fi.toNat) (mem (fct t.fcs fi.toNat) mn), 0) := by unfold tubR; rw [hE, if_neg (by decide)]; rfl
     rw [hf]
     exact ⟨_, [rowI (tv) 74 2 t.ticks.toNat ((tubeS t (fct t.fcs fi.toNat) (mem (fct t.fcs fi.toNat) mn)).flatMap spanC)], rfl, fun w2 hi => sl_spans (hi (rowI (tv) 74 2 t.ticks.toNat ((tubeS t (fct t.fcs fi.toNat) (mem (fct t.fcs fi.toNat) mn)).flatMap spanC)) (by simp)) (tubeS_len ..) (lbd_i64 htl), its1 hS⟩
end Go.Proofs.YtgidbailiababaaGreatDoor

/- part Sx12 -/
namespace Go.Proofs.YtgidbailiababaaGreatDoor
open Go Bx
set_option maxHeartbeats 4000000 in
theorem c_Boxes {t : Sgt} {cv : Value} {ag ak ae : Option Addr} {cg ck ce : Nat} {now : Int} {w0 : World} (h : RSgt w0 [.int .i64 t.table.mean, cv, .slice ag t.gauges.length cg, .int .i64 t.wrong, .int .i64 t.frm, .int .i64 t.ticks, .slice ak t.ctrs.length ck, .slice ae t.fcs.length ce, .int .i64 t.least, .int .i64 t.most, .int .i64 t.rate, .int .i64 t.quorum] t) (hg : Glb w0) (hI : I64 now) : CE Tryz.prog 20 #[.agg [.int .i64 t.table.mean, cv, .slice ag t.gauges.length cg, .int .i64 t.wrong, .int .i64 t.frm, .int .i64 t.ticks, .slice ak t.ctrs.length ck, .slice ae t.fcs.length ce, .int .i64 t.least, .int .i64 t.most, .int .i64 t.rate, .int .i64 t.quorum].toArray, .int .i64 now] w0 (fun u w' => ∃ v its, u = .tuple #[v, .int .i64 (boxR t now).2] ∧ (∀ w2 : World, (∀ it ∈ its, it.ok w2) → Sl w2 5 RBxs v (((boxR t now).1).map (toBxs t.frm))) ∧ St w0 w' [packI its]) := by
 obtain ⟨hT, hG, hw64, hf64, hk64, hC, hF, hl64, hm64, hr64, hq64⟩ := RSgt.parts h
 refine enter Tryz.func20 rfl Tryz.ntmps20 rfl ?_
 have hS := St.start w0
 refine seq <| region ?_
 refine sbox hS rfl rfl ?_; clear hS; intro b2 w hS
 refine sv (yAsg rfl) <| sv (yAsg rfl) <| nil <| cwQ <| seq <| region <| sv (yLdBA rfl Tryz.isAgg29 Tryz.sizeOf29 (hS.at _) rfl rfl) <| sv (yMove rfl) ?_
 refine scall Tryz.call63 (.cons rfl (.cons rfl .nil)) (c_with (h.ext hS.ext) hI) ?_
 rintro _ w (⟨he, rfl, hE⟩ | ⟨he, bk, aw, cw, ax, cx, rfl, hM⟩)
 ·
  replace hS := hS.step hE; clear hE
  refine sv (yMove rfl) <| sv (yExt rfl rfl) <| sv (yExt rfl rfl) <| sv (yAsg rfl) <| sv (yAsg rfl) <| nil <| cwQ <| seq <| seq ?_
  refine region <| sv (yMove rfl) <| sv (yNeq rfl rfl) <| nil <| cwQ ?_
  refine cond rfl (fun c16 => ?_) (fun c16 => ?_)
  ·
   simp only [BS, ne_eq] at c16
   refine seq <| region <| sv (yMove rfl) <| sv (yAsg rfl) <| sv (yAsg rfl) <| nil <| cwQ ?_
   refine wp_ret (thenR ?_)
   refine retQ (res2 rfl rfl rfl) ?_
   have hf : boxR t now = ([], askE t now) := by unfold boxR; rw [if_pos he]
   rw [hf]
   exact ⟨_, [], rfl, fun _ _ => sl_none, its0 hS⟩
  ·
   simp only [BS, ne_eq] at c16
   exact absurd c16 he
 ·
  replace hS := hS.call hM; clear hM
  replace hS : StX [] w0 w [blk bk [.int .i64 t.table.mean, cv, .slice ag t.gauges.length cg, .int .i64 t.wrong, .int .i64 t.frm, .int .i64 t.ticks, .slice ak t.ctrs.length ck, .slice ae t.fcs.length ce, .int .i64 t.least, .int .i64 t.most, .int .i64 t.rate, .int .i64 t.quorum, .int .i64 now, .slice aw t.ticks.toNat cw, .slice ax t.ctrs.length cx, .slice none 0 0] 123, rowI (.slice aw t.ticks.toNat cw) 74 2 t.ticks.toNat ((tidesS t).flatMap spanC), rowI (.slice ax t.ctrs.length cx) 3 1 t.ctrs.length ((curS t now).flatMap Bx.encI), blk b2 [.int .i64 t.table.mean, cv, .slice ag t.gauges.length cg, .int .i64 t.wrong, .int .i64 t.frm, .int .i64 t.ticks, .slice ak t.ctrs.length ck, .slice ae t.fcs.length ce, .int .i64 t.least, .int .i64 t.most, .int .i64 t.rate, .int .i64 t.quorum] 29] := hS
  obtain ⟨hok, hnow⟩ := askE_ok he
  have htk := hok.tk
  have hnc := hok.nc
  have hnf := hok.nf
  refine sv (yMove rfl) <| sv (yExt rfl rfl) <| sv (yExt rfl rfl) <| sv (yAsg rfl) <| sv (yAsg rfl) <| nil <| cwQ <| seq <| seq ?_
  refine region <| sv (yMove rfl) <| sv (yNeq rfl rfl) <| nil <| cwQ ?_
  refine cond rfl (fun c16 => ?_) (fun c16 => ?_)
  ·
   exact absurd c16 (by decide)
  ·
   refine skip <| cwQ <| seq <| seq <| region <| sv (yMove rfl) ?_
   refine scall Tryz.call64 (.cons rfl .nil) (c_boxes h hok hnow hg (.inl ⟨rfl, rfl, rfl⟩) ((hS.nilrow 74 2).perm (List.Perm.swap _ _ _))) ?_
   rintro bv w ⟨ov', ms, ls, hs, hl1, hl2, hl3, hM⟩; clear hS; have hS := hM; clear hM
   obtain ⟨av, cv2, rfl⟩ := row_shape (hS.row bv)
   have hbn : (boxS t now).length ≤ 625 := Nat.le_trans boxL_len (cho_bd hok)
   refine sv (yLen rfl Tryz.underlying110) <| sv (yMove rfl) <| nil <| cwQ <| block <| loop (fun f w zz => ∃ (k : Nat) (pv : Value), f 4 = pv ∧ f 19 = .slice av (boxS t now).length cv2 ∧ f 20 = .int .i64 ((boxS t now).length : Int) ∧ f 21 = .int .i64 (k : Int) ∧ StX [] w0 w (rowI pv 43 5 k (boxC t.frm ms ls hs k) :: rowI (.slice av (boxS t now).length cv2) 115 9 (boxS t now).length (bxCs t.frm ((boxS t now).map Bo.mem) ms ls hs).flatten :: packI (inI ms ((boxS t now).map Bo.mem)) :: packI (inI ls ((boxS t now).map lowB)) :: packI (inI hs ((boxS t now).map highB)) :: blk bk [.int .i64 t.table.mean, cv, .slice ag t.gauges.length cg, .int .i64 t.wrong, .int .i64 t.frm, .int .i64 t.ticks, .slice ak t.ctrs.length ck, .slice ae t.fcs.length ce, .int .i64 t.least, .int .i64 t.most, .int .i64 t.rate, .int .i64 t.quorum, .int .i64 now, .slice aw t.ticks.toNat cw, .slice ax t.ctrs.length cx, ov'] 123 :: rowI (ov') 74 2 t.ticks.toNat ((baseS t now).flatMap spanC) :: rowI (.slice aw t.ticks.toNat cw) 74 2 t.ticks.toNat ((tidesS t).flatMap spanC) :: rowI (.slice ax t.ctrs.length cx) 3 1 t.ctrs.length ((curS t now).flatMap Bx.encI) :: blk b2 [.int .i64 t.table.mean, cv, .slice ag t.gauges.length cg, .int .i64 t.wrong, .int .i64 t.frm, .int .i64 t.ticks, .slice ak t.ctrs.length ck, .slice ae t.fcs.length ce, .int .i64 t.least, .int .i64 t.most, .int .i64 t.rate, .int .i64 t.quorum] 29 :: []) ∧ (k ≤ (boxS t now).length) ∧ zz = (boxS t now).length - k) _ ⟨_, rfl, 0, _, rfl, rfl, rfl, rfl, (hS.nilrow 43 5), (Nat.zero_le _), rfl⟩ ?_
   clear hS
   rintro f w _ ⟨k, pv, h4, h19, h20, h21, hS, hk, rfl⟩
   refine seq <| region <| sv (yLss h21 h20) <| nil <| cwQ <| seq ?_
   refine cond rfl (fun c22 => ?_) (fun c22 => ?_)
   ·
    simp only [BS, ne_eq] at c22
    have hkn : k < (boxS t now).length := by omega
    obtain ⟨gb, am, cm, al, cl, ah, ch, hgb, hcb, hes, -, -, hsh0⟩ := (bx_at (hS.row (.slice av (boxS t now).length cv2)) hkn rfl hl1 hl2 hl3 (fun b hb => box_ok hok hb) (hS.ok (packI (inI ms ((boxS t now).map Bo.mem))) (by simp)) (hS.ok (packI (inI ls ((boxS t now).map lowB))) (by simp)) (hS.ok (packI (inI hs ((boxS t now).map highB))) (by simp)))
    refine skip <| cwQ <| seq <| block <| seq <| region <| sv (yIxa h19 hgb h21 Tryz.runUnderlying110 Tryz.sizeOf115 (by omega) (by omega)) <| sv (yLdA rfl Tryz.isAgg115 Tryz.sizeOf115 hcb rfl) ?_
    refine salloc hS Tryz.zeroValue115 rfl ?_; clear hS; intro b8 w hS
    refine sst hS rfl rfl Tryz.sizeOf115 rfl rfl rfl rfl ?_; clear hS; intro w hS
    refine nil <| cwQ <| region <| sv (yMove h4) <| sv (fa115_1 rfl) <| sv (yLdBA rfl Tryz.isAgg43 Tryz.sizeOf43 (hS.at _) rfl rfl) ?_
    refine sbslice hS Tryz.underlying35 Tryz.sizeOf43 rfl Tryz.zeroValue43 rfl (.cons rfl rfl .nil) rfl ?_; clear hS; intro b28 w hS
    refine sapp (bytes := 88) (size := 5) (v := pv) (m := 1) hS rfl rfl Tryz.underlying35 ti43 rfl rfl rfl rfl (by decide) (blk_cells (hS.at _)) rfl rfl (by omega) (by omega) ?_; clear hS; intro v29 w hS
    refine sv (yAsg rfl) <| nil <| cwQ <| region <| sv (yAdd h21 rfl ⟨by omega, by omega⟩) <| sv (yMove rfl) <| nil ?_
    exact ⟨_, _, rfl, ⟨k + 1, _, rfl, h19, h20, rfl, (by rw [boxC_succ, hes.1, hes.2.1, hes.2.2]; exact hS.sub (.cons _ (.cons _ lrQ))), (by omega), rfl⟩, by omega⟩
   ·
    simp only [BS, ne_eq] at c22
    obtain rfl : k = (boxS t now).length := by omega
    refine exit <| cwQ <| seq <| region <| sv (yMove h4) <| sv (yAsg rfl) <| sv (yAsg rfl) <| nil <| cwQ ?_
    refine wp_ret <| retQ (res2 rfl rfl rfl) ?_
    have hf : boxR t now = (boxS t now, 0) := by unfold boxR; rw [if_neg (fun k => k he)]
    rw [hf]
    exact ⟨_, [rowI pv 43 5 (boxS t now).length (boxC t.frm ms ls hs (boxS t now).length), rowI (.slice av (boxS t now).length cv2) 115 9 (boxS t now).length (bxCs t.frm ((boxS t now).map Bo.mem) ms ls hs).flatten, packI (inI ms ((boxS t now).map Bo.mem)), packI (inI ls ((boxS t now).map lowB)), packI (inI hs ((boxS t now).map highB))], rfl, fun w2 hi => box_sl (hi (rowI pv 43 5 (boxS t now).length (boxC t.frm ms ls hs (boxS t now).length)) (by simp)) rfl hf64 hl1 hl2 hl3 (fun b hb => box_ok hok hb) (hi (packI (inI ms ((boxS t now).map Bo.mem))) (by simp)) (hi (packI (inI ls ((boxS t now).map lowB))) (by simp)) (hi (packI (inI hs ((boxS t now).map highB))) (by simp)), StX.pack (M := [rowI pv 43 5 (boxS t now).length (boxC t.frm ms ls hs (boxS t now).length), rowI (.slice av (boxS t now).length cv2) 115 9 (boxS t now).length (bxCs t.frm ((boxS t now).map Bo.mem) ms ls hs).flatten, packI (inI ms ((boxS t now).map Bo.mem)), packI (inI ls ((boxS t now).map lowB)), packI (inI hs ((boxS t now).map highB))]) (hS.sub (.cons_cons _ (.cons_cons _ (.cons_cons _ (.cons_cons _ (.cons_cons _ (List.nil_sublist _)))))))⟩
set_option maxHeartbeats 2000000 in
theorem c_someS {t : Sgt} {cv : Value} {ag ak ae : Option Addr} {cg ck ce : Nat} {now : Int} {w0 : World} (h : RSgt w0 [.int .i64 t.table.mean, cv, .slice ag t.gauges.length cg, .int .i64 t.wrong, .int .i64 t.frm, .int .i64 t.ticks, .slice ak t.ctrs.length ck, .slice ae t.fcs.length ce, .int .i64 t.least, .int .i64 t.most, .int .i64 t.rate, .int .i64 t.quorum] t) (hg : Glb w0) (hI : I64 now) : CE Tryz.prog 93 #[.agg [.int .i64 t.table.mean, cv, .slice ag t.gauges.length cg, .int .i64 t.wrong, .int .i64 t.frm, .int .i64 t.ticks, .slice ak t.ctrs.length ck, .slice ae t.fcs.length ce, .int .i64 t.least, .int .i64 t.most, .int .i64 t.rate, .int .i64 t.quorum].toArray, .int .i64 now] w0 (fun u w' => (smE t now ≠ 0 ∧ ∃ v, u = .tuple #[v, .int .i64 (smE t now)] ∧ Ext w0 w') ∨ (smE t now = 0 ∧ ∃ av cv2 ms ls hs, u = .tuple #[.slice av (boxS t now).length cv2, .int .i64 0] ∧ (ms.length = (boxS t now).length ∧ ls.length = (boxS t now).length ∧ hs.length = (boxS t now).length) ∧ St w0 w' [rowI (.slice av (boxS t now).length cv2) 115 9 (boxS t now).length (bxCs t.frm ((boxS t now).map Bo.mem) ms ls hs).flatten, packI (inI ms ((boxS t now).map Bo.mem)), packI (inI ls ((boxS t now).map lowB)), packI (inI hs ((boxS t now).map highB))])) := by
 obtain ⟨hT, hG, hw64, hf64, hk64, hC, hF, hl64, hm64, hr64, hq64⟩ := RSgt.parts h
 refine enter Tryz.func93 rfl Tryz.ntmps93 rfl ?_
 have hS := St.start w0
 refine seq <| region ?_
 refine sbox hS rfl rfl ?_; clear hS; intro b2 w hS
 refine sv (yAsg rfl) <| sv (yAsg rfl) <| nil <| cwQ <| seq <| region <| sv (yLdBA rfl Tryz.isAgg29 Tryz.sizeOf29 (hS.at _) rfl rfl) <| sv (yMove rfl) ?_
 refine scall Tryz.call63 (.cons rfl (.cons rfl .nil)) (c_with (h.ext hS.ext) hI) ?_
 rintro _ w (⟨he, rfl, hE⟩ | ⟨he, bk, aw, cw, ax, cx, rfl, hM⟩)
 ·
  replace hS := hS.step hE; clear hE
  refine sv (yMove rfl) <| sv (yExt rfl rfl) <| sv (yExt rfl rfl) <| sv (yAsg rfl) <| sv (yAsg rfl) <| nil <| cwQ <| seq <| seq ?_
  refine region <| sv (yMove rfl) <| sv (yNeq rfl rfl) <| nil <| cwQ ?_
  refine cond rfl (fun c16 => ?_) (fun c16 => ?_)
  ·
   simp only [BS, ne_eq] at c16
   refine seq <| region <| sv (yMove rfl) <| sv (yAsg rfl) <| sv (yAsg rfl) <| nil <| cwQ ?_
   refine wp_ret (thenR ?_)
   refine retQ (res2 rfl rfl rfl) ?_
   have hf : smE t now = askE t now := by unfold smE; rw [if_pos he]
   exact .inl ⟨by rw [hf]; exact he, _, by rw [hf]; rfl, hS.ext⟩
  ·
   simp only [BS, ne_eq] at c16
   exact absurd c16 he
 ·
  replace hS := hS.call hM; clear hM
  replace hS : StX [] w0 w [blk bk [.int .i64 t.table.mean, cv, .slice ag t.gauges.length cg, .int .i64 t.wrong, .int .i64 t.frm, .int .i64 t.ticks, .slice ak t.ctrs.length ck, .slice ae t.fcs.length ce, .int .i64 t.least, .int .i64 t.most, .int .i64 t.rate, .int .i64 t.quorum, .int .i64 now, .slice aw t.ticks.toNat cw, .slice ax t.ctrs.length cx, .slice none 0 0] 123, rowI (.slice aw t.ticks.toNat cw) 74 2 t.ticks.toNat ((tidesS t).flatMap spanC), rowI (.slice ax t.ctrs.length cx) 3 1 t.ctrs.length ((curS t now).flatMap Bx.encI), blk b2 [.int .i64 t.table.mean, cv, .slice ag t.gauges.length cg, .int .i64 t.wrong, .int .i64 t.frm, .int .i64 t.ticks, .slice ak t.ctrs.length ck, .slice ae t.fcs.length ce, .int .i64 t.least, .int .i64 t.most, .int .i64 t.rate, .int .i64 t.quorum] 29] := hS
  obtain ⟨hok, hnow⟩ := askE_ok he
  have htk := hok.tk
  have hnc := hok.nc
  have hnf := hok.nf
  refine sv (yMove rfl) <| sv (yExt rfl rfl) <| sv (yExt rfl rfl) <| sv (yAsg rfl) <| sv (yAsg rfl) <| nil <| cwQ <| seq <| seq ?_
  refine region <| sv (yMove rfl) <| sv (yNeq rfl rfl) <| nil <| cwQ ?_
  refine cond rfl (fun c16 => ?_) (fun c16 => ?_)
  ·
   exact absurd c16 (by decide)
  ·
   refine skip <| cwQ <| seq <| region <| sv (yMove rfl) ?_
   refine scall Tryz.call64 (.cons rfl .nil) (c_boxes h hok hnow hg (.inl ⟨rfl, rfl, rfl⟩) ((hS.nilrow 74 2).perm (List.Perm.swap _ _ _))) ?_
   rintro bv w ⟨ov', ms, ls, hs, hl1, hl2, hl3, hM⟩; clear hS; have hS := hM; clear hM
   obtain ⟨av, cv2, rfl⟩ := row_shape (hS.row bv)
   have hbn : (boxS t now).length ≤ 625 := Nat.le_trans boxL_len (cho_bd hok)
   refine sv (yAsg rfl) <| nil <| cwQ <| seq <| seq <| region <| sv (yMove rfl) <| sv (yLen rfl Tryz.underlying110) <| sv (yEql rfl rfl) ?_
   refine nil <| cwQ ?_
   refine cond rfl (fun c22 => ?_) (fun c22 => ?_)
   ·
    simp only [BS, ne_eq] at c22
    refine seq <| region <| sv (yAsg rfl) <| sv (yAsg rfl) <| nil <| cwQ ?_
    refine wp_ret (thenR ?_)
    refine retQ (res2 rfl rfl rfl) ?_
    have hf : smE t now = 9 := by unfold smE; rw [if_neg (fun k => k he), if_pos (by omega)]
    exact .inl ⟨by rw [hf]; decide, _, by rw [hf]; rfl, hS.ext⟩
   ·
    simp only [BS, ne_eq] at c22
    refine skip <| cwQ <| seq <| region <| sv (yMove rfl) <| sv (yAsg rfl) <| sv (yAsg rfl) <| nil <| cwQ ?_
    refine wp_ret <| retQ (res2 rfl rfl rfl) ?_
    have hf : smE t now = 0 := by unfold smE; rw [if_neg (fun k => k he), if_neg (by omega)]
    exact .inr ⟨hf, av, cv2, ms, ls, hs, rfl, ⟨hl1, hl2, hl3⟩, hS.sub (.cons_cons _ (.cons_cons _ (.cons_cons _ (.cons_cons _ (List.nil_sublist _)))))⟩
end Go.Proofs.YtgidbailiababaaGreatDoor

/- part S22 -/
namespace Bx
open Go Go.RowKit
def botK (l : List Int) (k : Nat) : Int := (l.take k).foldl min (l.getD 0 0)
def botL (l : List Int) : Int := botK l l.length
section
variable {l : List Int}
theorem topK_1 : topK l 1 = l.getD 0 0 := by
  unfold topK
  cases l with
  | nil => rfl
  | cons a l => simp
theorem botK_1 : botK l 1 = l.getD 0 0 := by
  unfold botK
  cases l with
  | nil => rfl
  | cons a l => simp
theorem topK_succ {k : Nat} (h : k < l.length) : topK l (k + 1) = max (topK l k) (l.getD k 0) := by
  unfold topK
  rw [take_snoc (show l[k]? = some (l.getD k 0) by simp [h]), List.foldl_append]; rfl
theorem botK_succ {k : Nat} (h : k < l.length) : botK l (k + 1) = min (botK l k) (l.getD k 0) := by
  unfold botK
  rw [take_snoc (show l[k]? = some (l.getD k 0) by simp [h]), List.foldl_append]; rfl
end
end Bx

/- part Sx13 -/
namespace Go.Proofs.YtgidbailiababaaGreatDoor
open Go Bx
set_option maxHeartbeats 1000000 in
theorem c_MaxI {v : Value} {l : List Int} {w0 : World} (hl : Sl w0 1 RInt v l) (h0 : 0 < l.length) : CV Tryz.prog 95 #[v] w0 (.int .i64 (topL l)) := by
 obtain ⟨a, ca, rfl, hac, ham, -⟩ := id hl
 obtain ⟨b0, o0, c0, ha0, -, hc0, hR0, -⟩ := sl_at hl (show l[0]? = some (l.getD 0 0) by simp [h0])
 obtain ⟨rfl, -⟩ := hR0
 refine enter Tryz.func95 rfl Tryz.ntmps95 rfl ?_
 have hS := St.start w0
 refine seq <| region <| sv (yAsg rfl) <| nil <| cwQ <| seq <| seq <| region <| sv (yMove rfl) ?_
 refine sv (yLen rfl Tryz.underlying39) <| sv (yLss rfl rfl) <| nil <| cwQ ?_
 refine cond rfl (fun c7 => ?_) (fun c7 => ?_)
 ·
  simp only [BS, ne_eq] at c7
  exfalso; omega
 ·
  simp only [BS, ne_eq] at c7
  refine skip <| cwQ <| seq <| region <| sv (yMove rfl) <| sv (yIxa rfl ha0 rfl Tryz.runUnderlying39 Tryz.sizeOf3 (by omega) (by omega)) <| sv (yLd rfl Tryz.isAgg3 (hc0.ext hS.ext).one) <| sv (yAsg rfl) <| nil ?_
  refine cwQ <| seq <| seq <| region <| sv (yAsg rfl) <| nil <| cwQ <| block <| loop (fun f w zz => ∃ (k : Nat), f 0 = .slice a l.length ca ∧ f 3 = .int .i64 (topK l k) ∧ f 4 = .int .i64 (k : Int) ∧ StX [] w0 w [] ∧ (1 ≤ k ∧ k ≤ l.length) ∧ zz = l.length - k) _ ⟨_, rfl, 1, rfl, (rfl.trans (congrArg (Value.int .i64) topK_1.symm)), rfl, hS, (⟨Nat.le_refl _, by omega⟩), rfl⟩ ?_
  clear hS
  rintro f w _ ⟨k, h0, h3, h4, hS, hk, rfl⟩
  refine seq <| seq <| region <| sv (yMove h4) <| sv (yMove h0) <| sv (yLen rfl Tryz.underlying39) <| sv (yLss rfl rfl) <| nil <| cwQ ?_
  refine cond rfl (fun c15 => ?_) (fun c15 => ?_)
  ·
   simp only [BS, ne_eq] at c15
   have hkl : k < l.length := by omega
   obtain ⟨bx, ox, cx, hax, -, hcx, hRx, -⟩ := sl_at hl (show l[k]? = some (l.getD k 0) by simp [hkl])
   obtain ⟨rfl, -⟩ := hRx
   refine skip <| cwQ <| seq <| block <| region <| sv (yMove h3) <| sv (yMove h0) <| sv (yMove h4) <| sv (yIxa rfl hax rfl Tryz.runUnderlying39 Tryz.sizeOf3 (by omega) (by omega)) ?_
   refine sv (yLd rfl Tryz.isAgg3 (hcx.ext hS.ext).one) <| sv (yMax rfl rfl) <| sv (yAsg rfl) <| nil <| cwQ <| region <| sv (yMove h4) <| sv (yAdd rfl rfl ⟨by omega, by omega⟩) <| sv (yAsg rfl) ?_
   refine nil ?_
   exact ⟨_, _, rfl, ⟨k + 1, h0, (rfl.trans (congrArg (Value.int .i64) (topK_succ hkl).symm)), rfl, hS, (by omega), rfl⟩, by omega⟩
  ·
   simp only [BS, ne_eq] at c15
   obtain rfl : k = l.length := by omega
   refine exit <| cwQ <| seq <| region <| sv (yMove h3) <| sv (yAsg rfl) <| nil <| cwQ <| wp_ret ?_
   exact retV (res1 rfl rfl) hS.ext
set_option maxHeartbeats 1000000 in
theorem c_MinI2 {v : Value} {l : List Int} {w0 : World} (hl : Sl w0 1 RInt v l) (h0 : 0 < l.length) : CV Tryz.prog 96 #[v] w0 (.int .i64 (botL l)) := by
 obtain ⟨a, ca, rfl, hac, ham, -⟩ := id hl
 obtain ⟨b0, o0, c0, ha0, -, hc0, hR0, -⟩ := sl_at hl (show l[0]? = some (l.getD 0 0) by simp [h0])
 obtain ⟨rfl, -⟩ := hR0
 refine enter Tryz.func96 rfl Tryz.ntmps96 rfl ?_
 have hS := St.start w0
 refine seq <| region <| sv (yAsg rfl) <| nil <| cwQ <| seq <| seq <| region <| sv (yMove rfl) ?_
 refine sv (yLen rfl Tryz.underlying39) <| sv (yLss rfl rfl) <| nil <| cwQ ?_
 refine cond rfl (fun c7 => ?_) (fun c7 => ?_)
 ·
  simp only [BS, ne_eq] at c7
  exfalso; omega
 ·
  simp only [BS, ne_eq] at c7
  refine skip <| cwQ <| seq <| region <| sv (yMove rfl) <| sv (yIxa rfl ha0 rfl Tryz.runUnderlying39 Tryz.sizeOf3 (by omega) (by omega)) <| sv (yLd rfl Tryz.isAgg3 (hc0.ext hS.ext).one) <| sv (yAsg rfl) <| nil ?_
  refine cwQ <| seq <| seq <| region <| sv (yAsg rfl) <| nil <| cwQ <| block <| loop (fun f w zz => ∃ (k : Nat), f 0 = .slice a l.length ca ∧ f 3 = .int .i64 (botK l k) ∧ f 4 = .int .i64 (k : Int) ∧ StX [] w0 w [] ∧ (1 ≤ k ∧ k ≤ l.length) ∧ zz = l.length - k) _ ⟨_, rfl, 1, rfl, (rfl.trans (congrArg (Value.int .i64) botK_1.symm)), rfl, hS, (⟨Nat.le_refl _, by omega⟩), rfl⟩ ?_
  clear hS
  rintro f w _ ⟨k, h0, h3, h4, hS, hk, rfl⟩
  refine seq <| seq <| region <| sv (yMove h4) <| sv (yMove h0) <| sv (yLen rfl Tryz.underlying39) <| sv (yLss rfl rfl) <| nil <| cwQ ?_
  refine cond rfl (fun c15 => ?_) (fun c15 => ?_)
  ·
   simp only [BS, ne_eq] at c15
   have hkl : k < l.length := by omega
   obtain ⟨bx, ox, cx, hax, -, hcx, hRx, -⟩ := sl_at hl (show l[k]? = some (l.getD k 0) by simp [hkl])
   obtain ⟨rfl, -⟩ := hRx
   refine skip <| cwQ <| seq <| block <| region <| sv (yMove h3) <| sv (yMove h0) <| sv (yMove h4) <| sv (yIxa rfl hax rfl Tryz.runUnderlying39 Tryz.sizeOf3 (by omega) (by omega)) ?_
   refine sv (yLd rfl Tryz.isAgg3 (hcx.ext hS.ext).one) <| sv (yMin rfl rfl) <| sv (yAsg rfl) <| nil <| cwQ <| region <| sv (yMove h4) <| sv (yAdd rfl rfl ⟨by omega, by omega⟩) <| sv (yAsg rfl) ?_
   refine nil ?_
   exact ⟨_, _, rfl, ⟨k + 1, h0, (rfl.trans (congrArg (Value.int .i64) (botK_succ hkl).symm)), rfl, hS, (by omega), rfl⟩, by omega⟩
  ·
   simp only [BS, ne_eq] at c15
   obtain rfl : k = l.length := by omega
   refine exit <| cwQ <| seq <| region <| sv (yMove h3) <| sv (yAsg rfl) <| nil <| cwQ <| wp_ret ?_
   exact retV (res1 rfl rfl) hS.ext
end Go.Proofs.YtgidbailiababaaGreatDoor

/- part S23 -/
namespace Bx
open Go Go.RowKit
def exC1 : Ctr := ⟨⟨#[109, 101, 116]⟩, 2, 100, 50⟩
def exC2 : Ctr := ⟨⟨#[111, 99, 101, 97, 110]⟩, 5, 200, 0⟩
def exF1 : Fct := ⟨0, 88, 100, [[1000, 1500, 2000], [500, 700, 900]]⟩
def exF2 : Fct := ⟨1, 90, 101, [[2500, 2600]]⟩
def exF3 : Fct := ⟨0, 94, 100, [[1200, 1800, 2600]]⟩
def exS : Sgt := ⟨⟨0, []⟩, [], 0, 100, 3, [exC1, exC2], [exF1, exF2, exF3], -500, 4000, 800, 1⟩
theorem exs_rs {w : World} {cv fv : Value} (hc : Sl w 4 RCtr cv [exC1, exC2]) (hf : Sl w 4 RFct fv [exF1, exF2, exF3]) : RSgt w [.int .i64 0, .slice none 0 0, .slice none 0 0, .int .i64 0, .int .i64 100, .int .i64 3, cv, fv, .int .i64 (-500), .int .i64 4000, .int .i64 800, .int .i64 1] exS :=
  ⟨_, _, _, _, rfl, ⟨_, rfl, by decide, sl_none⟩, sl_none, by decide, by decide, by decide, hc, hf, by decide, by decide, by decide, by decide⟩
theorem exs_pos : posR exS 95 = ([[3500, 2700, 2800]], 0) := by decide +kernel
theorem exs_rul : rulR exS 96 90 = ([0], 0) := by decide +kernel
theorem exs_tub : tubR exS 3 0 = ([], 4) := by decide +kernel
end Bx

/- part Sx14 -/
namespace Go.Proofs.YtgidbailiababaaGreatDoor
open Go Bx
set_option maxHeartbeats 1000000 in
theorem c_Ints {va vb : Value} {a b : List Int} {w0 : World} (ha : Sl w0 1 RInt va a) (hb : Sl w0 1 RInt vb b) : CV Tryz.prog 22 #[va, vb] w0 (.bool (decide (a = b))) := by
 obtain ⟨aa, ca, rfl, hacap, hamx, -⟩ := id ha
 obtain ⟨ab, cb, rfl, -⟩ := id hb
 refine enter Tryz.func22 rfl Tryz.ntmps22 rfl ?_
 have hS := St.start w0
 refine seq <| region <| sv (yAsg rfl) <| nil <| cwQ <| seq <| seq <| region <| sv (yMove rfl) ?_
 refine sv (yLen rfl Tryz.underlying39) <| sv (yMove rfl) <| sv (yLen rfl Tryz.underlying39) <| sv (yNeq rfl rfl) <| nil <| cwQ ?_
 refine cond rfl (fun c10 => ?_) (fun c10 => ?_)
 ·
  simp only [BS, ne_eq] at c10
  refine seq <| region <| sv (yAsg rfl) <| nil <| cwQ ?_
  refine wp_ret (thenR ?_)
  exact retV (res1 rfl (congrArg Value.bool (show false = decide (a = b) from (decide_eq_false (fun e => by rw [e] at c10; exact c10 rfl)).symm))) hS.ext
 ·
  simp only [BS, ne_eq] at c10
  have hl : a.length = b.length := by omega
  refine skip <| cwQ <| seq <| seq <| region <| sv (yAsg rfl) <| nil <| cwQ <| block ?_
  refine loop (fun f w zz => ∃ (k : Nat), f 0 = .slice aa a.length ca ∧ f 1 = .slice ab b.length cb ∧ f 5 = .int .i64 (k : Int) ∧ StX [] w0 w [] ∧ (k ≤ a.length) ∧ (∀ i, i < k → a[i]? = b[i]?) ∧ zz = a.length - k) _ ⟨_, rfl, 0, rfl, rfl, rfl, hS, (Nat.zero_le _), (fun i hi => absurd hi (Nat.not_lt_zero _)), rfl⟩ ?_
  clear hS
  rintro f w _ ⟨k, h0, h1, h5, hS, hk, hA, rfl⟩
  refine seq <| seq <| region <| sv (yMove h5) <| sv (yMove h0) <| sv (yLen rfl Tryz.underlying39) <| sv (yLss rfl rfl) <| nil <| cwQ ?_
  refine cond rfl (fun c14 => ?_) (fun c14 => ?_)
  ·
   simp only [BS, ne_eq] at c14
   have hkl : k < a.length := by omega
   obtain ⟨bx, ox, cx, hax, hlx, hcx, hRx, -⟩ := sl_at ha (show a[k]? = some (a.getD k 0) by simp [hkl])
   obtain ⟨rfl, -⟩ := hRx
   obtain ⟨by0, oy, cy, hay, hly, hcy, hRy, -⟩ := sl_at hb (show b[k]? = some (b.getD k 0) by simp [show k < b.length by omega])
   obtain ⟨rfl, -⟩ := hRy
   refine skip <| cwQ <| seq <| block <| seq <| region_draw mixed (by kernel_rfl) hS <| qv (fun w hS => (yMove h0)) <| qv (fun w hS => (yMove h5)) <| qv (fun w hS => (yIxa rfl hax rfl Tryz.runUnderlying39 Tryz.sizeOf3 (by omega) (by omega))) ?_
   refine qv (fun w hS => (yLd rfl Tryz.isAgg3 (hcx.ext hS.ext).one)) <| qv (fun w hS => (yMove h1)) <| qv (fun w hS => (yMove h5)) <| qv (fun w hS => (yIxa rfl hay rfl Tryz.runUnderlying39 Tryz.sizeOf3 (by omega) (by omega))) <| qv (fun w hS => (yLd rfl Tryz.isAgg3 (hcy.ext hS.ext).one)) <| qv (fun w hS => (yNeq rfl rfl)) ?_
   clear hS; refine qnil (fun w hS => ?_)
   refine cwQ ?_
   refine cond rfl (fun c25 => ?_) (fun c25 => ?_)
   ·
    simp only [BS, ne_eq] at c25
    refine seq <| region <| sv (yAsg rfl) <| nil <| cwQ ?_
    refine wp_ret (blockR (thenR (thenR (blockR (thenR ?_)))))
    exact retV (res1 rfl (congrArg Value.bool (show false = decide (a = b) from (decide_eq_false (fun e => by rw [e] at c25; exact c25 rfl)).symm))) hS.ext
   ·
    simp only [BS, ne_eq] at c25
    refine skip <| cwQ <| region <| sv (yMove h5) <| sv (yAdd rfl rfl ⟨by omega, by omega⟩) <| sv (yAsg rfl) <| nil ?_
    exact ⟨_, _, rfl, ⟨k + 1, h0, h1, rfl, hS, (by omega), (fun i hi => by
     by_cases e : i = k
     ·
      subst e
      rw [List.getElem?_eq_getElem hkl, List.getElem?_eq_getElem (show i < b.length by omega)]
      have e1 : a.getD i 0 = a[i] := by simp [hkl]
      have e2 : b.getD i 0 = b[i] := by simp [show i < b.length by omega]
      congr 1; omega
     ·
      exact hA i (by omega)), rfl⟩, by omega⟩
  ·
   simp only [BS, ne_eq] at c14
   obtain rfl : k = a.length := by omega
   refine exit <| cwQ <| seq <| region <| sv (yAsg rfl) <| nil <| cwQ <| wp_ret ?_
   exact retV (res1 rfl (congrArg Value.bool (show true = decide (a = b) from (decide_eq_true (eq_of_get hl hA)).symm))) hS.ext
set_option maxHeartbeats 1000000 in
theorem c_Same {x y : Ser} {ca cb : List Value} {w0 : World} (hx : RSer w0 ca x) (hy : RSer w0 cb y) : CV Tryz.prog 23 #[.agg ca.toArray, .agg cb.toArray] w0 (.bool (decide (x = y))) := by
 obtain ⟨va, rfl, hfa, ha⟩ := hx
 obtain ⟨vb, rfl, hfb, hb⟩ := hy
 obtain ⟨aa, na, rfl, -⟩ := id ha
 obtain ⟨ab, nb, rfl, -⟩ := id hb
 refine enter Tryz.func23 rfl Tryz.ntmps23 rfl ?_
 have hS := St.start w0
 refine seq <| region ?_
 refine sbox hS rfl rfl ?_; clear hS; intro b2 w hS
 refine sbox hS rfl rfl ?_; clear hS; intro b3 w hS
 refine sv (yAsg rfl) <| nil <| cwQ <| seq <| region <| sv (fa41_0 rfl) <| sv (yLdB rfl Tryz.isAgg3 (hS.at _) rfl) <| sv (fa41_0 rfl) <| sv (yLdB rfl Tryz.isAgg3 (hS.at _) rfl) ?_
 refine sv (yEql rfl rfl) <| sv (yMove rfl) ?_
 refine sg rfl rfl rfl (fun g => (fa41_1 rfl)) (fun v11 g11 => ?_)
 refine sg rfl rfl rfl (fun g => (yLdB (g11.1 g) Tryz.isAgg39 (hS.at _) rfl)) (fun v12 g12 => ?_)
 refine sg rfl rfl rfl (fun g => (fa41_1 rfl)) (fun v13 g13 => ?_)
 refine sg rfl rfl rfl (fun g => (yLdB (g13.1 g) Tryz.isAgg39 (hS.at _) rfl)) (fun v14 g14 => ?_)
 refine sgc hS rfl rfl rfl Tryz.call22 (fun g => (.cons (g12.1 g) (.cons (g14.1 g) .nil))) (fun g => (c_Ints (ha.ext RInt.stays hS.ext) (hb.ext RInt.stays hS.ext))) ?_; clear hS; intro v15 w hS g15
 refine sv (yAnd rfl (fun hB => (g15.1 hB)) rfl) <| sv (yAsg rfl) <| nil <| cwQ <| wp_ret ?_
 exact retV (res1 rfl (congrArg Value.bool (by cases x; cases y; simp))) hS.ext
end Go.Proofs.YtgidbailiababaaGreatDoor

/- part Sx15 -/
namespace Go.Proofs.YtgidbailiababaaGreatDoor
open Go Bx
set_option maxHeartbeats 2000000 in
theorem c_Example {w0 : World} : CE Tryz.prog 52 #[] w0 (fun u w' => ∃ bc bf, u = .agg [.int .i64 0, .slice none 0 0, .slice none 0 0, .int .i64 0, .int .i64 100, .int .i64 3, .slice (some ⟨bc, 0, none⟩) 2 2, .slice (some ⟨bf, 0, none⟩) 3 3, .int .i64 (-500), .int .i64 4000, .int .i64 800, .int .i64 1].toArray ∧ RSgt w' [.int .i64 0, .slice none 0 0, .slice none 0 0, .int .i64 0, .int .i64 100, .int .i64 3, .slice (some ⟨bc, 0, none⟩) 2 2, .slice (some ⟨bf, 0, none⟩) 3 3, .int .i64 (-500), .int .i64 4000, .int .i64 800, .int .i64 1] exS ∧ Ext w0 w') := by
 refine enter Tryz.func52 rfl Tryz.ntmps52 rfl ?_
 have hS := St.start w0
 refine seq <| region ?_
 refine salloc hS Tryz.zeroValue29 rfl ?_; clear hS; intro b0 w hS
 refine nil <| cwQ <| seq <| region <| sv (yBuild Tryz.zeroValue57 rfl pl57 (.cons rfl rfl (.cons rfl rfl (.cons rfl rfl (.cons rfl rfl .nil)))) rfl) <| sv (yBuild Tryz.zeroValue57 rfl pl57 (.cons rfl rfl (.cons rfl rfl (.cons rfl rfl .nil))) rfl) ?_
 refine sbslice hS Tryz.underlying26 Tryz.sizeOf57 rfl Tryz.zeroValue57 rfl (.cons rfl rfl (.cons rfl rfl .nil)) rfl ?_; clear hS; intro b3 w hS
 refine sbslice hS Tryz.underlying39 Tryz.sizeOf3 rfl Tryz.zeroValue3 rfl (.cons rfl rfl (.cons rfl rfl (.cons rfl rfl .nil))) rfl ?_; clear hS; intro b4 w hS
 refine sbslice hS Tryz.underlying39 Tryz.sizeOf3 rfl Tryz.zeroValue3 rfl (.cons rfl rfl (.cons rfl rfl (.cons rfl rfl .nil))) rfl ?_; clear hS; intro b5 w hS
 refine sbslice hS Tryz.underlying59 Tryz.sizeOf39 rfl Tryz.zeroValue39 rfl (.cons rfl rfl (.cons rfl rfl .nil)) rfl ?_; clear hS; intro b6 w hS
 refine sv (yBuild Tryz.zeroValue61 rfl pl61 (.cons rfl rfl (.cons rfl rfl (.cons rfl rfl .nil))) rfl) ?_
 refine sbslice hS Tryz.underlying39 Tryz.sizeOf3 rfl Tryz.zeroValue3 rfl (.cons rfl rfl (.cons rfl rfl .nil)) rfl ?_; clear hS; intro b8 w hS
 refine sbslice hS Tryz.underlying59 Tryz.sizeOf39 rfl Tryz.zeroValue39 rfl (.cons rfl rfl .nil) rfl ?_; clear hS; intro b9 w hS
 refine sv (yBuild Tryz.zeroValue61 rfl pl61 (.cons rfl rfl (.cons rfl rfl (.cons rfl rfl (.cons rfl rfl .nil)))) rfl) ?_
 refine sbslice hS Tryz.underlying39 Tryz.sizeOf3 rfl Tryz.zeroValue3 rfl (.cons rfl rfl (.cons rfl rfl (.cons rfl rfl .nil))) rfl ?_; clear hS; intro b11 w hS
 refine sbslice hS Tryz.underlying59 Tryz.sizeOf39 rfl Tryz.zeroValue39 rfl (.cons rfl rfl .nil) rfl ?_; clear hS; intro b12 w hS
 refine sv (yBuild Tryz.zeroValue61 rfl pl61 (.cons rfl rfl (.cons rfl rfl (.cons rfl rfl .nil))) rfl) ?_
 refine sbslice hS Tryz.underlying27 Tryz.sizeOf61 rfl Tryz.zeroValue61 rfl (.cons rfl rfl (.cons rfl rfl (.cons rfl rfl .nil))) rfl ?_; clear hS; intro b14 w hS
 refine sv (yBuild (r := [.int .i64 0, .slice none 0 0, .slice none 0 0, .int .i64 0, .int .i64 100, .int .i64 3, .slice (some ⟨b3, 0, none⟩) 2 2, .slice (some ⟨b14, 0, none⟩) 3 3, .int .i64 (-500), .int .i64 4000, .int .i64 800, .int .i64 1]) Tryz.zeroValue29 rfl pl29 (.cons rfl rfl (.cons rfl rfl (.cons rfl rfl (.cons rfl rfl (.cons rfl rfl (.cons rfl rfl (.cons rfl rfl (.cons rfl rfl .nil)))))))) (by kernel_rfl)) ?_
 refine sst hS rfl rfl Tryz.sizeOf29 rfl rfl rfl rfl ?_; clear hS; intro w hS
 refine nil <| cwQ <| wp_ret <| retQ (resV1 rfl (rc rfl Tryz.isAgg29 Tryz.sizeOf29 (hS.at b0) rfl rfl)) ?_
 have hc := (show Sl w 4 RCtr (.slice (some ⟨b3, 0, none⟩) 2 2) ([exC1, exC2] : List Ctr) from sl_of_blk (hS.at b3) (css := [[.string ⟨#[109, 101, 116]⟩, .int .i64 2, .int .i64 100, .int .i64 50], [.string ⟨#[111, 99, 101, 97, 110]⟩, .int .i64 5, .int .i64 200, .int .i64 0]]) (l := ([exC1, exC2] : List Ctr)) rfl ⟨rfl, ⟨rfl, by decide, by decide, by decide, by decide⟩, rfl, ⟨rfl, by decide, by decide, by decide, by decide⟩, trivial⟩ (by decide) rfl)
 have hf := (show Sl w 4 RFct (.slice (some ⟨b14, 0, none⟩) 3 3) ([exF1, exF2, exF3] : List Fct) from sl_of_blk (hS.at b14) (css := [[.int .i64 0, .int .i64 88, .int .i64 100, .slice (some ⟨b6, 0, none⟩) 2 2], [.int .i64 1, .int .i64 90, .int .i64 101, .slice (some ⟨b9, 0, none⟩) 1 1], [.int .i64 0, .int .i64 94, .int .i64 100, .slice (some ⟨b12, 0, none⟩) 1 1]]) (l := ([exF1, exF2, exF3] : List Fct)) rfl ⟨rfl, ⟨_, rfl, by decide, by decide, by decide, (show Sl w 1 RRow (.slice (some ⟨b6, 0, none⟩) 2 2) ([[1000, 1500, 2000], [500, 700, 900]] : List (List Int)) from sl_of_blk (hS.at b6) (css := [[.slice (some ⟨b4, 0, none⟩) 3 3], [.slice (some ⟨b5, 0, none⟩) 3 3]]) (l := ([[1000, 1500, 2000], [500, 700, 900]] : List (List Int))) rfl ⟨rfl, ⟨_, rfl, (ints_sl (l := [1000, 1500, 2000]) (hS.at b4) (by decide) (by decide))⟩, rfl, ⟨_, rfl, (ints_sl (l := [500, 700, 900]) (hS.at b5) (by decide) (by decide))⟩, trivial⟩ (by decide) rfl)⟩, rfl, ⟨_, rfl, by decide, by decide, by decide, (show Sl w 1 RRow (.slice (some ⟨b9, 0, none⟩) 1 1) ([[2500, 2600]] : List (List Int)) from sl_of_blk (hS.at b9) (css := [[.slice (some ⟨b8, 0, none⟩) 2 2]]) (l := ([[2500, 2600]] : List (List Int))) rfl ⟨rfl, ⟨_, rfl, (ints_sl (l := [2500, 2600]) (hS.at b8) (by decide) (by decide))⟩, trivial⟩ (by decide) rfl)⟩, rfl, ⟨_, rfl, by decide, by decide, by decide, (show Sl w 1 RRow (.slice (some ⟨b12, 0, none⟩) 1 1) ([[1200, 1800, 2600]] : List (List Int)) from sl_of_blk (hS.at b12) (css := [[.slice (some ⟨b11, 0, none⟩) 3 3]]) (l := ([[1200, 1800, 2600]] : List (List Int))) rfl ⟨rfl, ⟨_, rfl, (ints_sl (l := [1200, 1800, 2600]) (hS.at b11) (by decide) (by decide))⟩, trivial⟩ (by decide) rfl)⟩, trivial⟩ (by decide) rfl)
 exact ⟨b3, b14, rfl, exs_rs hc hf, hS.ext⟩
end Go.Proofs.YtgidbailiababaaGreatDoor

/- part Sx16 -/
namespace Go.Proofs.YtgidbailiababaaGreatDoor
open Go Bx
set_option maxHeartbeats 4000000 in
theorem c_Awake {w0 : World} (hg : Glb w0) : CV Tryz.prog 19 #[] w0 (.bool true) := by
 refine enter Tryz.func19 rfl Tryz.ntmps19 rfl ?_
 have hS := St.start w0
 refine seq <| region <| sv (yAsg rfl) <| nil <| cwQ <| seq <| region ?_
 refine scall Tryz.call52 .nil c_Example ?_
 rintro _ w ⟨bc1, bf1, rfl, hT1, hE⟩; replace hS := hS.step hE; clear hE
 refine scall Tryz.call24 (.cons rfl (.cons rfl .nil)) (c_Possible (t := exS) (now := 95) hT1 (hg.ext hS.ext) ⟨by decide, by decide⟩) ?_
 rw [exs_pos]
 rintro _ w ⟨pv, is1, rfl, hi1, hM⟩; replace hS := hS.call1 hM; clear hM
 obtain ⟨ap, cp, rfl, -⟩ := hi1 w (fun it hi => hS.ok (packI is1) (by simp) it hi)
 refine sv (yMove rfl) <| sv (yExt rfl rfl) <| sv (yExt rfl rfl) <| sv (yAsg rfl) <| sv (yAsg rfl) <| nil <| cwQ <| seq <| region ?_
 refine scall Tryz.call52 .nil c_Example ?_
 rintro _ w ⟨bc2, bf2, rfl, hT2, hE⟩; replace hS := hS.step hE; clear hE
 refine scall Tryz.call33 (.cons rfl (.cons rfl (.cons rfl .nil))) (c_Ruled (t := exS) (th := 90) (now := 96) hT2 (hg.ext hS.ext) ⟨by decide, by decide⟩ ⟨by decide, by decide⟩) ?_
 rw [exs_rul]
 rintro _ w ⟨lv, is2, rfl, hi2, hM⟩; replace hS := hS.call1 hM; clear hM
 refine sv (yMove rfl) <| sv (yExt rfl rfl) <| sv (yExt rfl rfl) <| sv (yAsg rfl) <| sv (yAsg rfl) <| nil <| cwQ <| seq <| region ?_
 refine scall Tryz.call52 .nil c_Example ?_
 rintro _ w ⟨bc3, bf3, rfl, hT3, hE⟩; replace hS := hS.step hE; clear hE
 refine scall Tryz.call41 (.cons rfl (.cons rfl (.cons rfl .nil))) (c_Tube (t := exS) (fi := 3) (mi := 0) hT3 (hg.ext hS.ext) ⟨by decide, by decide⟩ ⟨by decide, by decide⟩) ?_
 rw [exs_tub]
 rintro _ w ⟨tv, is3, rfl, -, hM⟩; replace hS := hS.call1 hM; clear hM
 refine sv (yMove rfl) <| sv (yExt rfl rfl) <| sv (yExt rfl rfl) <| sv (yAsg rfl) <| sv (yAsg rfl) <| nil <| cwQ <| seq <| region ?_
 have hE0 := hS.ext
 have hp := hi1 w (fun it hi => hS.ok (packI is1) (by simp) it hi)
 have hlr := hi2 w (fun it hi => hS.ok (packI is2) (by simp) it hi)
 obtain ⟨bp, op, cs0, hap, -, hcp, hRp, -⟩ := sl_at (i := 0) (x := Ser.mk exS.frm [3500, 2700, 2800]) hp rfl
 have hRp0 := hRp
 obtain ⟨vp, rfl, -⟩ := hRp
 replace hS := St.start w
 refine sv (yMove rfl) <| sv (yEql rfl rfl) <| sv (yMove rfl) <| ungo rfl rfl rfl <| sv (yMove rfl) <| ungo rfl rfl rfl <| sv (yEql rfl rfl) <| sv (yAnd rfl (fun hB => rfl) rfl) <| sv (yMove rfl) ?_
 refine ungo rfl rfl rfl <| sv (yMove rfl) <| ungo rfl rfl rfl <| sv (yEql rfl rfl) <| sv (yAnd rfl (fun hB => rfl) rfl) <| sv (yMove rfl) <| ungo rfl rfl rfl <| sv (yMove rfl) <| ungo rfl rfl rfl ?_
 refine sv (yLen rfl Tryz.underlying45) <| ungo rfl rfl rfl <| sv (yEql rfl rfl) <| sv (yAnd rfl (fun hB => rfl) rfl) <| sv (yMove rfl) <| ungo rfl rfl rfl <| sv (yMove rfl) <| ungo rfl rfl rfl <| sv (yIxa rfl hap rfl Tryz.runUnderlying45 Tryz.sizeOf41 (by decide) (by decide)) ?_
 refine ungo rfl rfl rfl <| sv (yLdA rfl Tryz.isAgg41 Tryz.sizeOf41 (hcp.ext hS.ext) rfl) <| ungo rfl rfl rfl ?_
 refine sbslice hS Tryz.underlying39 Tryz.sizeOf3 rfl Tryz.zeroValue3 rfl (.cons rfl rfl (.cons rfl rfl (.cons rfl rfl .nil))) rfl ?_; clear hS; intro b41 w hS
 refine ungo rfl rfl rfl <| sv (yBuild Tryz.zeroValue41 rfl pl41 (.cons rfl rfl (.cons rfl rfl .nil)) rfl) <| ungo rfl rfl rfl ?_
 refine scall Tryz.call23 (.cons rfl (.cons rfl .nil)) (c_Same (ca := [.int .i64 exS.frm, vp]) (cb := [.int .i64 100, .slice (some ⟨b41, 0, none⟩) 3 3]) (RSer.stays _ _ _ _ hS.ext hRp0) (show RSer w _ ⟨100, [3500, 2700, 2800]⟩ from ⟨_, rfl, by decide, ints_sl (l := [3500, 2700, 2800]) (hS.at b41) (by decide) (by decide)⟩)) ?_
 rintro _ w ⟨rfl, hE⟩; replace hS := hS.step hE; clear hE
 refine sv (yAnd rfl (fun hB => rfl) rfl) <| sv (yMove rfl) <| ungo rfl rfl rfl <| sv (yMove rfl) <| ungo rfl rfl rfl ?_
 refine sbslice hS Tryz.underlying39 Tryz.sizeOf3 rfl Tryz.zeroValue3 rfl (.cons rfl rfl .nil) rfl ?_; clear hS; intro b47 w hS
 refine ungo rfl rfl rfl ?_
 refine scall Tryz.call22 (.cons rfl (.cons rfl .nil)) (c_Ints (hlr.ext RInt.stays hS.ext) (ints_sl (l := [0]) (hS.at b47) (by decide) (by decide))) ?_
 rintro _ w ⟨rfl, hE⟩; replace hS := hS.step hE; clear hE
 refine sv (yAnd rfl (fun hB => rfl) rfl) <| sv (yAsg rfl) <| nil <| cwQ <| wp_ret ?_
 exact retV (res1 rfl rfl) (hE0.trans hS.ext)
end Go.Proofs.YtgidbailiababaaGreatDoor

/- part S25 -/
namespace Bx
open Go Go.RowKit
section
variable {t : Sgt} {now : Int} {s : Ser}
theorem boxR_1 (h : askE t now = 0) : (boxR t now).1 = boxS t now := by unfold boxR; rw [if_neg (fun k => k h)]
end
end Bx

/- part S30 -/
namespace Bx
open Go Go.RowKit
def envK (f : Nat → Nat → Int) (n q i : Nat) : List Int := (List.range n).map fun j => f j (if j < i then q + 1 else q)
section
variable {f : Nat → Nat → Int} {n q i j : Nat}
theorem envK_len : (envK f n q i).length = n := by simp [envK]
theorem envK_get (h : j < n) : (envK f n q i)[j]? = some (f j (if j < i then q + 1 else q)) := by simp [envK, h]
theorem envK_succ (h : i < n) : envK f n q (i + 1) = (envK f n q i).set i (f i (q + 1)) := by
  apply List.ext_getElem?
  intro j
  rw [List.getElem?_set, envK_len]
  by_cases hj : j < n
  · rw [envK_get hj, envK_get hj]
    by_cases e : i = j
    · subst e
      rw [if_pos rfl, if_pos hj, if_pos (Nat.lt_succ_self _)]
    · rw [if_neg e]
      by_cases h2 : j < i
      · rw [if_pos h2, if_pos (by omega)]
      · rw [if_neg h2, if_neg (by omega)]
  · rw [List.getElem?_eq_none (by rw [envK_len]; omega), List.getElem?_eq_none (by rw [envK_len]; omega), if_neg (by omega)]
theorem envK_next : envK f n q n = envK f n (q + 1) 0 := by
  unfold envK
  refine List.map_congr_left fun j hj => ?_
  rw [if_pos (List.mem_range.1 hj), if_neg (Nat.not_lt_zero _)]
theorem env_store {x : Int} (h : i < n) (hx : f i (q + 1) = x) : splice ((envK f n q i).flatMap encI) (i * 1) [.int .i64 x] = (envK f n q (i + 1)).flatMap encI := by
  rw [envK_succ h, hx]
  exact splice_enc encI_len _ _ x (by rw [envK_len]; exact h)
theorem envK_here (h : i < n) : (envK f n q i)[i]? = some (f i q) := by rw [envK_get h, if_neg (Nat.lt_irrefl _)]
theorem envK_all : envK f n q 0 = (List.range n).map fun i => f i q := by
  unfold envK
  refine List.map_congr_left fun j hj => ?_
  rw [if_neg (Nat.not_lt_zero _)]
end
section
variable {t : Sgt} {now : Int}
theorem envLo_succ (i k : Nat) : envLo t now i (k + 1) = min (envLo t now i k) ((lowB (boxAt (boxS t now) k)).getD i 0) := by unfold envLo; rw [List.range_succ, List.foldl_append]; rfl
theorem envHi_succ (i k : Nat) : envHi t now i (k + 1) = max (envHi t now i k) ((highB (boxAt (boxS t now) k)).getD i 0) := by unfold envHi; rw [List.range_succ, List.foldl_append]; rfl
theorem envLo_1 (i : Nat) : envLo t now i 1 = (lowB (boxAt (boxS t now) 0)).getD i 0 := by rw [envLo_succ]; exact Int.min_self _
theorem envHi_1 (i : Nat) : envHi t now i 1 = (highB (boxAt (boxS t now) 0)).getD i 0 := by rw [envHi_succ]; exact Int.max_self _
theorem list_range {l : List Int} {n : Nat} (h : l.length = n) : ((List.range n).map fun i => l.getD i 0) = l := by
  subst h
  apply List.ext_getElem?
  intro i
  rw [List.getElem?_map]
  by_cases hi : i < l.length
  · rw [List.getElem?_range hi]; simp [hi]
  · rw [List.getElem?_eq_none (by simpa using hi), List.getElem?_eq_none (by omega)]; rfl
theorem envLo_first (h : (lowB (boxAt (boxS t now) 0)).length = t.ticks.toNat) : envK (envLo t now) t.ticks.toNat 1 0 = lowB (boxAt (boxS t now) 0) := by
  rw [envK_all]
  refine Eq.trans ?_ (list_range h)
  exact List.map_congr_left fun i _ => envLo_1 i
theorem envHi_first (h : (highB (boxAt (boxS t now) 0)).length = t.ticks.toNat) : envK (envHi t now) t.ticks.toNat 1 0 = highB (boxAt (boxS t now) 0) := by
  rw [envK_all]
  refine Eq.trans ?_ (list_range h)
  exact List.map_congr_left fun i _ => envHi_1 i
theorem getD_i64 {l : List Int} (h : ∀ x ∈ l, I64 x) (i : Nat) : I64 (l.getD i 0) := by
  rw [List.getD_eq_getElem?_getD]
  cases e : l[i]? with
  | none => decide
  | some x => exact h x (List.mem_of_getElem? e)
theorem boxAt_i64 (h : SgOk t) (k i : Nat) : I64 ((lowB (boxAt (boxS t now) k)).getD i 0) ∧ I64 ((highB (boxAt (boxS t now) k)).getD i 0) := by
  by_cases hk : k < (boxS t now).length
  · have hb := box_ok h (boxAt_mem hk)
    exact ⟨getD_i64 hb.2.2.1 i, getD_i64 hb.2.2.2 i⟩
  · have e : boxAt (boxS t now) k = ⟨[], []⟩ := by unfold boxAt; rw [List.getD_eq_getElem?_getD, List.getElem?_eq_none (by omega)]; rfl
    rw [e]
    exact ⟨show I64 0 by decide, show I64 0 by decide⟩
theorem env_i64 (h : SgOk t) (i : Nat) : ∀ k, I64 (envLo t now i k) ∧ I64 (envHi t now i k)
  | 0 => boxAt_i64 h 0 i
  | k + 1 => by
    have h1 := env_i64 h i k
    have h2 := boxAt_i64 (now := now) h k i
    rw [envLo_succ, envHi_succ]
    unfold I64 at *
    omega
theorem envK_i64 (h : SgOk t) {q i : Nat} : (∀ x ∈ envK (envLo t now) t.ticks.toNat q i, I64 x) ∧ ∀ x ∈ envK (envHi t now) t.ticks.toNat q i, I64 x := by
  constructor
  · intro x hx
    obtain ⟨j, -, rfl⟩ := List.mem_map.1 hx
    exact (env_i64 h j _).1
  · intro x hx
    obtain ⟨j, -, rfl⟩ := List.mem_map.1 hx
    exact (env_i64 h j _).2
theorem smE_box (h : smE t now = 0) : askE t now = 0 ∧ 0 < (boxS t now).length := by
  unfold smE at h
  split at h
  next h1 => exact absurd h h1
  next h1 =>
  split at h
  · simp at h
  next h2 => exact ⟨Decidable.not_not.1 h1, Nat.pos_of_ne_zero h2⟩
def topLo (t : Sgt) (now : Int) (k : Nat) : List Int := (List.range k).map fun q => topL (lowB (boxAt (boxS t now) q))
def topHi (t : Sgt) (now : Int) (k : Nat) : List Int := (List.range k).map fun q => topL (highB (boxAt (boxS t now) q))
theorem topLo_succ (k : Nat) : topLo t now (k + 1) = topLo t now k ++ [topL (lowB (boxAt (boxS t now) k))] := by unfold topLo; rw [List.range_succ, List.map_append]; rfl
theorem topHi_succ (k : Nat) : topHi t now (k + 1) = topHi t now k ++ [topL (highB (boxAt (boxS t now) k))] := by unfold topHi; rw [List.range_succ, List.map_append]; rfl
theorem topLo_len (k : Nat) : (topLo t now k).length = k := by simp [topLo]
theorem topHi_len (k : Nat) : (topHi t now k).length = k := by simp [topHi]
theorem botL_peak {k : Nat} (h : 0 < k) : botL (topLo t now k) = peakLo t now k := by
  unfold botL botK
  rw [List.take_length, topLo, List.foldl_map]
  unfold peakLo
  congr 1
  simp [List.getD, h]
theorem topL_peak {k : Nat} (h : 0 < k) : topL (topHi t now k) = peakHi t now k := by
  unfold topL topK
  rw [List.take_length, topHi, List.foldl_map]
  unfold peakHi
  congr 1
  simp [List.getD, h]
theorem topL_i64 {l : List Int} (h : ∀ x ∈ l, I64 x) : I64 (topL l) := by
  have key : ∀ (l : List Int) (a : Int), I64 a → (∀ x ∈ l, I64 x) → I64 (l.foldl max a) := fun l => by
    induction l with
    | nil => exact fun a ha _ => ha
    | cons x l ih =>
      intro a ha hl
      refine ih _ ?_ fun y hy => hl y (List.mem_cons_of_mem _ hy)
      have := hl x (List.mem_cons_self ..)
      unfold I64 at *
      omega
  unfold topL topK
  rw [List.take_length]
  exact key l _ (getD_i64 h 0) h
theorem topLo_i64 (h : SgOk t) {k : Nat} (hk : k ≤ (boxS t now).length) : (∀ x ∈ topLo t now k, I64 x) ∧ ∀ x ∈ topHi t now k, I64 x := by
  constructor
  · intro x hx
    obtain ⟨q, hq, rfl⟩ := List.mem_map.1 hx
    exact topL_i64 (box_ok h (boxAt_mem (by have := List.mem_range.1 hq; omega))).2.2.1
  · intro x hx
    obtain ⟨q, hq, rfl⟩ := List.mem_map.1 hx
    exact topL_i64 (box_ok h (boxAt_mem (by have := List.mem_range.1 hq; omega))).2.2.2
end
section
variable {w : World} {frm : Int} {B : TypeId} {bs : List Bo} {ms ls hs : List Value}
theorem bx_of {n cap g : Nat} (hrow : w.ownsRow 0 B 9 (.slice (some ⟨g, 0, none⟩) n cap) n (bxCs frm (bs.map Bo.mem) ms ls hs).flatten) {k : Nat} (hk : k < bs.length) (hn : bs.length = n) (h1 : ms.length = bs.length) (h2 : ls.length = bs.length) (h3 : hs.length = bs.length) {m l h : Value} (em : ms.getD k undef = m) (el : ls.getD k undef = l) (eh : hs.getD k undef = h) : Cells w g (k * 9) (bxC frm (boxAt bs k).mem m l h) := by
  obtain ⟨g', e, hc⟩ := bx_cells hrow hk hn h1 h2 h3
  cases e
  rw [em, el, eh] at hc
  exact hc
theorem bx_fit {n cap : Nat} {a : Option Addr} (hrow : w.ownsRow 0 B 9 (.slice a n cap) n (bxCs frm (bs.map Bo.mem) ms ls hs).flatten) : n ≤ cap := by
  rcases hrow.2 with ⟨e, h0⟩ | ⟨g, cap', cur, e, -, -, h4, -⟩
  · omega
  · obtain ⟨-, rfl⟩ := slice_inj e; exact h4
theorem fromA_1 {g cap k : Nat} (h : 1 < cap) : fromA (some ⟨g, 0, none⟩) cap 1 k = some ⟨g, k, none⟩ := by
  unfold fromA
  rw [if_neg (by omega), Option.map_some, addr_add, Nat.zero_add, Nat.one_mul]
theorem in_sl1 {f : Bo → List Int} {vs : List Value} (hi : ∀ it ∈ inI (vs.drop 1) ((bs.map f).drop 1), it.ok w) (hl : vs.length = bs.length) {k : Nat} (hk : k + 1 < bs.length) (hb : ∀ x ∈ f (boxAt bs (k + 1)), I64 x) : Sl w 1 RInt (vs.getD (k + 1) undef) (f (boxAt bs (k + 1))) := by
  have h1 : (vs.drop 1)[k]? = some (vs.getD (k + 1) undef) := by rw [List.getElem?_drop, Nat.add_comm]; simp [List.getD, show k + 1 < vs.length by omega]
  have h2 : ((bs.map f).drop 1)[k]? = some (f (boxAt bs (k + 1))) := by rw [List.getElem?_drop, Nat.add_comm, List.getElem?_map, boxAt_get hk]; rfl
  have h3 : w.ownsRow 0 3 1 (vs.getD (k + 1) undef) (f (boxAt bs (k + 1))).length ((f (boxAt bs (k + 1))).flatMap encI) := hi _ (inI_get h1 h2)
  exact sl_ints h3 rfl hb
end
theorem env_take {S : List Nat} {w0 w : World} {x1 x2 : Item} {ls hs : List Value} {LO HI : List (List Int)} {l h : Value} {lo hi : List Int} {L : List Item} (hS : StX S w0 w (x1 :: x2 :: packI (inI ls LO) :: packI (inI hs HI) :: L)) (e1 : ls[0]? = some l) (e2 : LO[0]? = some lo) (e3 : hs[0]? = some h) (e4 : HI[0]? = some hi) :
    StX S w0 w (inR l lo :: inR h hi :: x1 :: x2 :: packI (inI (ls.drop 1) (LO.drop 1)) :: packI (inI (hs.drop 1) (HI.drop 1)) :: L) := by
  have k1 : inI ls LO = [] ++ inR l lo :: inI (ls.drop 1) (LO.drop 1) := inI_split e1 e2
  have k2 : inI hs HI = [] ++ inR h hi :: inI (hs.drop 1) (HI.drop 1) := inI_split e3 e4
  rw [k1, k2] at hS
  have h1 : StX S w0 w (packI ([] ++ inR l lo :: inI (ls.drop 1) (LO.drop 1)) :: x1 :: x2 :: packI ([] ++ inR h hi :: inI (hs.drop 1) (HI.drop 1)) :: L) := hS.perm (List.perm_middle (l₁ := [x1, x2]))
  have h2 : StX S w0 w (inR l lo :: packI (inI (ls.drop 1) (LO.drop 1)) :: x1 :: x2 :: packI ([] ++ inR h hi :: inI (hs.drop 1) (HI.drop 1)) :: L) := h1.takeI
  have h3 : StX S w0 w (packI ([] ++ inR h hi :: inI (hs.drop 1) (HI.drop 1)) :: inR l lo :: packI (inI (ls.drop 1) (LO.drop 1)) :: x1 :: x2 :: L) := h2.perm (List.perm_middle (l₁ := [_, _, x1, x2]))
  have h4 : StX S w0 w (inR h hi :: packI (inI (hs.drop 1) (HI.drop 1)) :: inR l lo :: packI (inI (ls.drop 1) (LO.drop 1)) :: x1 :: x2 :: L) := h3.takeI
  refine h4.perm ?_
  refine (List.perm_middle (l₁ := [_, _]) (a := inR l lo)).trans (List.Perm.cons _ (List.Perm.cons _ ?_))
  refine (List.perm_middle (l₁ := [_, _]) (a := x1)).trans (List.Perm.cons _ ?_)
  refine (List.perm_middle (l₁ := [_, _]) (a := x2)).trans (List.Perm.cons _ ?_)
  exact List.Perm.swap _ _ _
end Bx

/- part Sx21 -/
namespace Go.Proofs.YtgidbailiababaaGreatDoor
open Go Bx
set_option maxHeartbeats 4000000 in
theorem c_Envelope {t : Sgt} {cv : Value} {ag ak ae : Option Addr} {cg ck ce : Nat} {now : Int} {w0 : World} (h : RSgt w0 [.int .i64 t.table.mean, cv, .slice ag t.gauges.length cg, .int .i64 t.wrong, .int .i64 t.frm, .int .i64 t.ticks, .slice ak t.ctrs.length ck, .slice ae t.fcs.length ce, .int .i64 t.least, .int .i64 t.most, .int .i64 t.rate, .int .i64 t.quorum] t) (hg : Glb w0) (hI : I64 now) : CE Tryz.prog 48 #[.agg [.int .i64 t.table.mean, cv, .slice ag t.gauges.length cg, .int .i64 t.wrong, .int .i64 t.frm, .int .i64 t.ticks, .slice ak t.ctrs.length ck, .slice ae t.fcs.length ce, .int .i64 t.least, .int .i64 t.most, .int .i64 t.rate, .int .i64 t.quorum].toArray, .int .i64 now] w0 (fun u w' => ∃ lv hv its, u = .tuple #[.agg #[.int .i64 (envR t now).1.frm, lv], .agg #[.int .i64 (envR t now).2.1.frm, hv], .int .i64 (envR t now).2.2] ∧ (∀ w2 : World, (∀ it ∈ its, it.ok w2) → Sl w2 1 RInt lv (envR t now).1.vals ∧ Sl w2 1 RInt hv (envR t now).2.1.vals) ∧ St w0 w' [packI its]) := by
 obtain ⟨hT, hG, hw64, hf64, hk64, hC, hF, hl64, hm64, hr64, hq64⟩ := RSgt.parts h
 refine enter Tryz.func48 rfl Tryz.ntmps48 rfl ?_
 have hS := St.start w0
 refine seq <| region ?_
 refine sbox hS rfl rfl ?_; clear hS; intro b2 w hS
 refine salloc hS Tryz.zeroValue41 rfl ?_; clear hS; intro b4 w hS
 refine salloc hS Tryz.zeroValue41 rfl ?_; clear hS; intro b5 w hS
 refine sv (yAsg rfl) <| nil <| cwQ <| seq <| region <| sv (yLdBA rfl Tryz.isAgg29 Tryz.sizeOf29 (hS.at _) rfl rfl) <| sv (yMove rfl) ?_
 refine scall Tryz.call93 (.cons rfl (.cons rfl .nil)) (c_someS (h.ext hS.ext) (hg.ext hS.ext) hI) ?_
 rintro _ w (⟨he, ev, rfl, hE⟩ | ⟨he, av, cv2, ms, ls, hs, rfl, hl, hM⟩)
 ·
  replace hS := hS.step hE; clear hE
  refine sv (yMove rfl) <| sv (yExt rfl rfl) <| sv (yExt rfl rfl) <| sv (yAsg rfl) <| sv (yAsg rfl) <| nil <| cwQ <| seq <| seq ?_
  refine region <| sv (yMove rfl) <| sv (yNeq rfl rfl) <| nil <| cwQ ?_
  refine cond rfl (fun c18 => ?_) (fun c18 => ?_)
  ·
   simp only [BS, ne_eq] at c18
   refine seq <| region <| sv (yBuild Tryz.zeroValue41 rfl pl41 .nil rfl) <| sv (yBuild Tryz.zeroValue41 rfl pl41 .nil rfl) <| sv (yMove rfl) ?_
   refine sst hS rfl rfl Tryz.sizeOf41 rfl rfl rfl rfl ?_; clear hS; intro w hS
   refine sst hS rfl rfl Tryz.sizeOf41 rfl rfl rfl rfl ?_; clear hS; intro w hS
   refine sv (yAsg rfl) <| nil <| cwQ ?_
   refine wp_ret (thenR ?_)
   refine retQ (resV3 rfl (rc rfl Tryz.isAgg41 Tryz.sizeOf41 (hS.at _) rfl rfl) (rc rfl Tryz.isAgg41 Tryz.sizeOf41 (hS.at _) rfl rfl) (rt rfl)) ?_
   have hf : envR t now = (⟨0, []⟩, ⟨0, []⟩, smE t now) := by unfold envR; rw [if_pos he]
   rw [hf]
   exact ⟨_, _, [], rfl, fun _ _ => ⟨sl_none, sl_none⟩, its0 hS⟩
  ·
   simp only [BS, ne_eq] at c18
   exact absurd c18 he
 ·
  replace hS := hS.call hM; clear hM
  obtain ⟨hl1, hl2, hl3⟩ := hl
  obtain ⟨hask, hpos⟩ := smE_box he
  obtain ⟨hok, hnow⟩ := askE_ok hask
  have htk := hok.tk
  have hbn : (boxS t now).length ≤ 625 := Nat.le_trans boxL_len (cho_bd hok)
  have hn0 := (high_len (boxAt_mem hpos)).1
  have hn1 := (high_len (boxAt_mem hpos)).2
  replace hS : StX [] w0 w (rowI (.slice av (boxS t now).length cv2) 115 9 (boxS t now).length (bxCs t.frm ((boxS t now).map Bo.mem) ms ls hs).flatten :: packI (inI ms ((boxS t now).map Bo.mem)) :: packI (inI ls ((boxS t now).map lowB)) :: packI (inI hs ((boxS t now).map highB)) :: [blk b5 [.int .i64 0, .slice none 0 0] 41, blk b4 [.int .i64 0, .slice none 0 0] 41, blk b2 [.int .i64 t.table.mean, cv, .slice ag t.gauges.length cg, .int .i64 t.wrong, .int .i64 t.frm, .int .i64 t.ticks, .slice ak t.ctrs.length ck, .slice ae t.fcs.length ce, .int .i64 t.least, .int .i64 t.most, .int .i64 t.rate, .int .i64 t.quorum] 29]) := hS
  have hfit := bx_fit (hS.row (.slice av (boxS t now).length cv2))
  obtain ⟨gb, am, cm, al0, cl0, ah0, ch0, rfl, -, hes0, -, hlo0, hhi0⟩ := bx_at (hS.row (.slice av (boxS t now).length cv2)) hpos rfl hl1 hl2 hl3 (fun b hb => box_ok hok hb) (hS.ok (packI (inI ms ((boxS t now).map Bo.mem))) (by simp)) (hS.ok (packI (inI ls ((boxS t now).map lowB))) (by simp)) (hS.ok (packI (inI hs ((boxS t now).map highB))) (by simp))
  replace hes0 := hes0.2
  rw [hn0, hn1] at hes0
  replace hS := env_take hS (l := .slice al0 t.ticks.toNat cl0) (lo := lowB (boxAt (boxS t now) 0)) (h := .slice ah0 t.ticks.toNat ch0) (hi := highB (boxAt (boxS t now) 0)) (by rw [← hes0.1]; simp [List.getD, show 0 < ls.length by omega]) (by rw [List.getElem?_map, boxAt_get hpos]; rfl) (by rw [← hes0.2]; simp [List.getD, show 0 < hs.length by omega]) (by rw [List.getElem?_map, boxAt_get hpos]; rfl)
  unfold inR at hS
  rw [hn0, hn1, ← envLo_first hn1, ← envHi_first hn0] at hS
  obtain ⟨gl, rfl, -⟩ := row_get (hS.row (.slice al0 t.ticks.toNat cl0)) (by omega)
  obtain ⟨gh, rfl, -⟩ := row_get (hS.row (.slice ah0 t.ticks.toNat ch0)) (by omega)
  refine sv (yMove rfl) <| sv (yExt rfl rfl) <| sv (yExt rfl rfl) <| sv (yAsg rfl) <| sv (yAsg rfl) <| nil <| cwQ <| seq <| seq ?_
  refine region <| sv (yMove rfl) <| sv (yNeq rfl rfl) <| nil <| cwQ ?_
  refine cond rfl (fun c18 => ?_) (fun c18 => ?_)
  ·
   exact absurd c18 (by decide)
  ·
   refine skip <| cwQ <| seq <| region_mix (fun w => StX [] w0 w (rowI (.slice (some ⟨gl, 0, none⟩) t.ticks.toNat cl0) 3 1 t.ticks.toNat ((envK (envLo t now) t.ticks.toNat (1) (0)).flatMap Bx.encI) :: rowI (.slice (some ⟨gh, 0, none⟩) t.ticks.toNat ch0) 3 1 t.ticks.toNat ((envK (envHi t now) t.ticks.toNat (1) (0)).flatMap Bx.encI) :: rowI (.slice (some ⟨gb, 0, none⟩) (boxS t now).length cv2) 115 9 (boxS t now).length (bxCs t.frm ((boxS t now).map Bo.mem) ms ls hs).flatten :: packI (inI ms ((boxS t now).map Bo.mem)) :: packI (inI (ls.drop 1) (((boxS t now).map lowB).drop 1)) :: packI (inI (hs.drop 1) (((boxS t now).map highB).drop 1)) :: [])) 11 mixed hS ?_
   clear hS; intro w hS
   refine f_step 0 (by kernel_rfl) rfl (fun c a a' w h => by obtain ⟨_, v, hv, _⟩ := h; cases hv) (hS.sub (List.sublist_append_left [_, _, _, _, _, _] _)) (fun w hS => (yMove rfl)) ?_
   refine f_step 1 (by kernel_rfl) rfl (fun c a a' w h => by obtain ⟨_, v, hv, _⟩ := h; cases hv) (hS.sub (List.sublist_append_left [_, _, _, _, _, _] _)) (fun w hS => (yIxa (m := 0) rfl rfl rfl Tryz.runUnderlying110 Tryz.sizeOf115 (by decide) (by omega))) ?_
   refine f_step 2 (by kernel_rfl) rfl (fun c a a' w h => by obtain ⟨_, v, hv, _⟩ := h; cases hv) (hS.sub (List.sublist_append_left [_, _, _, _, _, _] _)) (fun w hS => (fa115_1 rfl)) ?_
   refine f_step 3 (by kernel_rfl) rfl (fun c a a' w h => by obtain ⟨_, v, hv, _⟩ := h; cases hv) (hS.sub (List.sublist_append_left [_, _, _, _, _, _] _)) (fun w hS => (fa43_1 rfl)) ?_
   refine f_step 4 (by kernel_rfl) rfl (fun c a a' w h => by obtain ⟨_, v, hv, _⟩ := h; cases hv) (hS.sub (List.sublist_append_left [_, _, _, _, _, _] _)) (fun w hS => (yLdA rfl Tryz.isAgg41 Tryz.sizeOf41 (Cells.mid (xs := [.int .i64 t.frm, .slice (some ⟨gl, 0, none⟩) t.ticks.toNat cl0]) (bx_of (hS.row (.slice (some ⟨gb, 0, none⟩) (boxS t now).length cv2)) hpos rfl hl1 hl2 hl3 rfl hes0.1 hes0.2) 5 rfl) rfl)) ?_
   refine f_step 5 (by kernel_rfl) rfl (fun c a a' w h => by obtain ⟨_, v, hv, _⟩ := h; cases hv) (hS.sub (List.sublist_append_left [_, _, _, _, _, _] _)) (fun w hS => (yMove rfl)) ?_
   refine f_step 6 (by kernel_rfl) rfl (fun c a a' w h => by obtain ⟨_, v, hv, _⟩ := h; cases hv) (hS.sub (List.sublist_append_left [_, _, _, _, _, _] _)) (fun w hS => (yIxa (m := 0) rfl rfl rfl Tryz.runUnderlying110 Tryz.sizeOf115 (by decide) (by omega))) ?_
   refine f_step 7 (by kernel_rfl) rfl (fun c a a' w h => by obtain ⟨_, v, hv, _⟩ := h; cases hv) (hS.sub (List.sublist_append_left [_, _, _, _, _, _] _)) (fun w hS => (fa115_1 rfl)) ?_
   refine f_step 8 (by kernel_rfl) rfl (fun c a a' w h => by obtain ⟨_, v, hv, _⟩ := h; cases hv) (hS.sub (List.sublist_append_left [_, _, _, _, _, _] _)) (fun w hS => (fa43_2 rfl)) ?_
   refine f_step 9 (by kernel_rfl) rfl (fun c a a' w h => by obtain ⟨_, v, hv, _⟩ := h; cases hv) (hS.sub (List.sublist_append_left [_, _, _, _, _, _] _)) (fun w hS => (yLdA rfl Tryz.isAgg41 Tryz.sizeOf41 (Cells.mid (xs := [.int .i64 t.frm, .slice (some ⟨gh, 0, none⟩) t.ticks.toNat ch0]) (bx_of (hS.row (.slice (some ⟨gb, 0, none⟩) (boxS t now).length cv2)) hpos rfl hl1 hl2 hl3 rfl hes0.1 hes0.2) 7 rfl) rfl)) ?_
   refine awQ <| a1Q 10 (by kernel_rfl) rfl ?_
   refine sst hS rfl rfl Tryz.sizeOf41 rfl rfl rfl rfl ?_; clear hS; intro w hS
   refine nil ?_
   refine ⟨fun _ => (hS.sub (List.sublist_append_left [_, _, _, _, _, _] _)), ?_⟩
   refine awQ <| awQ <| a1Q 11 (by kernel_rfl) rfl ?_
   refine sst hS rfl rfl Tryz.sizeOf41 rfl rfl rfl rfl ?_; clear hS; intro w hS
   refine nil ?_
   refine ⟨fun h => absurd h (by decide), ?_⟩
   refine awQ <| a_end (by kernel_rfl) <| cwQ <| seq <| seq <| region <| sv (yMove rfl) <| sv (yFromA (i := 1) rfl rfl Tryz.underlying110 Tryz.sizeOf115 (by omega)) <| sv (yLen rfl Tryz.underlying110) ?_
   refine sv (yMove rfl) <| nil <| cwQ <| block <| loop (fun f w zz => ∃ (k : Nat), f 4 = .pointer (some ⟨b4, 0, none⟩) ∧ f 5 = .pointer (some ⟨b5, 0, none⟩) ∧ f 33 = .slice (fromA (some ⟨gb, 0, none⟩) cv2 1 9) ((boxS t now).length - 1) (cv2 - 1) ∧ f 34 = .int .i64 (((boxS t now).length - 1 : Nat) : Int) ∧ f 35 = .int .i64 (k : Int) ∧ StX [] w0 w (rowI (.slice (some ⟨gl, 0, none⟩) t.ticks.toNat cl0) 3 1 t.ticks.toNat ((envK (envLo t now) t.ticks.toNat (k + 1) (0)).flatMap Bx.encI) :: rowI (.slice (some ⟨gh, 0, none⟩) t.ticks.toNat ch0) 3 1 t.ticks.toNat ((envK (envHi t now) t.ticks.toNat (k + 1) (0)).flatMap Bx.encI) :: rowI (.slice (some ⟨gb, 0, none⟩) (boxS t now).length cv2) 115 9 (boxS t now).length (bxCs t.frm ((boxS t now).map Bo.mem) ms ls hs).flatten :: packI (inI ms ((boxS t now).map Bo.mem)) :: packI (inI (ls.drop 1) (((boxS t now).map lowB).drop 1)) :: packI (inI (hs.drop 1) (((boxS t now).map highB).drop 1)) :: blk b5 [.int .i64 t.frm, .slice (some ⟨gh, 0, none⟩) t.ticks.toNat ch0] 41 :: blk b4 [.int .i64 t.frm, .slice (some ⟨gl, 0, none⟩) t.ticks.toNat cl0] 41 :: []) ∧ (k + 1 ≤ (boxS t now).length) ∧ zz = (boxS t now).length - k) _ ⟨_, rfl, 0, rfl, rfl, rfl, rfl, rfl, (hS.sub (List.sublist_append_left [_, _, _, _, _, _, _, _] _)), (by omega), rfl⟩ ?_
   clear hS
   rintro f w _ ⟨k, h4, h5, h33, h34, h35, hS, hk, rfl⟩
   refine seq <| region <| sv (yLss h35 h34) <| nil <| cwQ <| seq ?_
   refine cond rfl (fun c36 => ?_) (fun c36 => ?_)
   ·
    simp only [BS, ne_eq] at c36
    have hkn : k + 1 < (boxS t now).length := by omega
    have hb1 := box_ok hok (boxAt_mem hkn)
    have hs1 := in_sl1 (f := lowB) (hS.ok (packI (inI (ls.drop 1) (((boxS t now).map lowB).drop 1))) (by simp)) hl2 hkn hb1.2.2.1
    have hs2 := in_sl1 (f := highB) (hS.ok (packI (inI (hs.drop 1) (((boxS t now).map highB).drop 1))) (by simp)) hl3 hkn hb1.2.2.2
    obtain ⟨al1, cl1, e1, -⟩ := id hs1
    have hs0 := in_sl (f := Bo.mem) (bs := boxS t now) (k := k + 1) (hS.ok (packI (inI ms ((boxS t now).map Bo.mem))) (by simp)) hl1 hkn hb1.2.1
    obtain ⟨am1, cm1, e0, -⟩ := id hs0
    obtain ⟨ah1, ch1, e2, -⟩ := id hs2
    have hn2 := (high_len (boxAt_mem hkn)).1
    have hn3 := (high_len (boxAt_mem hkn)).2
    refine skip <| cwQ <| seq <| block <| seq <| region <| sv (yIxa h33 (fromA_1 (by omega)) h35 Tryz.runUnderlying110 Tryz.sizeOf115 (by omega) (by omega)) ?_
    refine sv (yLdA rfl Tryz.isAgg115 Tryz.sizeOf115 (show Cells _ gb (9 + (k : Int).toNat * 9) _ by rw [show 9 + (k : Int).toNat * 9 = (k + 1) * 9 by omega]; exact bx_of (hS.row (.slice (some ⟨gb, 0, none⟩) (boxS t now).length cv2)) hkn rfl hl1 hl2 hl3 e0 e1 e2) rfl) ?_
    refine salloc hS Tryz.zeroValue115 rfl ?_; clear hS; intro b9 w hS
    refine sst hS rfl rfl Tryz.sizeOf115 rfl rfl rfl rfl ?_; clear hS; intro w hS
    refine nil <| cwQ <| seq <| region <| sv (fa41_1 h4) <| sv (yLdB rfl Tryz.isAgg39 (hS.at _) rfl) <| sv (yLen rfl Tryz.underlying39) <| sv (yMove rfl) <| nil ?_
    refine cwQ <| block <| loop (fun f w zz => ∃ (i : Nat), f 4 = .pointer (some ⟨b4, 0, none⟩) ∧ f 5 = .pointer (some ⟨b5, 0, none⟩) ∧ f 33 = .slice (fromA (some ⟨gb, 0, none⟩) cv2 1 9) ((boxS t now).length - 1) (cv2 - 1) ∧ f 34 = .int .i64 (((boxS t now).length - 1 : Nat) : Int) ∧ f 35 = .int .i64 (k : Int) ∧ f 9 = .pointer (some ⟨b9, 0, none⟩) ∧ f 41 = .int .i64 (t.ticks.toNat : Int) ∧ f 42 = .int .i64 (i : Int) ∧ StX [] w0 w (blk b9 (bxC t.frm (boxAt (boxS t now) (k + 1)).mem (.slice am1 (boxAt (boxS t now) (k + 1)).mem.length cm1) (.slice al1 (lowB (boxAt (boxS t now) (k + 1))).length cl1) (.slice ah1 (highB (boxAt (boxS t now) (k + 1))).length ch1)) 115 :: rowI (.slice (some ⟨gl, 0, none⟩) t.ticks.toNat cl0) 3 1 t.ticks.toNat ((envK (envLo t now) t.ticks.toNat (k + 1) (i)).flatMap Bx.encI) :: rowI (.slice (some ⟨gh, 0, none⟩) t.ticks.toNat ch0) 3 1 t.ticks.toNat ((envK (envHi t now) t.ticks.toNat (k + 1) (i)).flatMap Bx.encI) :: rowI (.slice (some ⟨gb, 0, none⟩) (boxS t now).length cv2) 115 9 (boxS t now).length (bxCs t.frm ((boxS t now).map Bo.mem) ms ls hs).flatten :: packI (inI ms ((boxS t now).map Bo.mem)) :: packI (inI (ls.drop 1) (((boxS t now).map lowB).drop 1)) :: packI (inI (hs.drop 1) (((boxS t now).map highB).drop 1)) :: blk b5 [.int .i64 t.frm, .slice (some ⟨gh, 0, none⟩) t.ticks.toNat ch0] 41 :: blk b4 [.int .i64 t.frm, .slice (some ⟨gl, 0, none⟩) t.ticks.toNat cl0] 41 :: []) ∧ (i ≤ t.ticks.toNat) ∧ zz = t.ticks.toNat - i) _ ⟨_, rfl, 0, h4, h5, h33, h34, h35, rfl, rfl, rfl, hS, (Nat.zero_le _), rfl⟩ ?_
    clear hS
    rintro f w _ ⟨i, h4, h5, h33, h34, h35, h9, h41, h42, hS, hi, rfl⟩
    refine seq <| region <| sv (yLss h42 h41) <| nil <| cwQ <| seq ?_
    refine cond rfl (fun c43 => ?_) (fun c43 => ?_)
    ·
     simp only [BS, ne_eq] at c43
     have hil : i < t.ticks.toNat := by omega
     have hq1 : ∀ w, StX [] w0 w (blk b9 (bxC t.frm (boxAt (boxS t now) (k + 1)).mem (.slice am1 (boxAt (boxS t now) (k + 1)).mem.length cm1) (.slice al1 (lowB (boxAt (boxS t now) (k + 1))).length cl1) (.slice ah1 (highB (boxAt (boxS t now) (k + 1))).length ch1)) 115 :: rowI (.slice (some ⟨gl, 0, none⟩) t.ticks.toNat cl0) 3 1 t.ticks.toNat ((envK (envLo t now) t.ticks.toNat (k + 1) (i)).flatMap Bx.encI) :: rowI (.slice (some ⟨gh, 0, none⟩) t.ticks.toNat ch0) 3 1 t.ticks.toNat ((envK (envHi t now) t.ticks.toNat (k + 1) (i)).flatMap Bx.encI) :: rowI (.slice (some ⟨gb, 0, none⟩) (boxS t now).length cv2) 115 9 (boxS t now).length (bxCs t.frm ((boxS t now).map Bo.mem) ms ls hs).flatten :: packI (inI ms ((boxS t now).map Bo.mem)) :: packI (inI (ls.drop 1) (((boxS t now).map lowB).drop 1)) :: packI (inI (hs.drop 1) (((boxS t now).map highB).drop 1)) :: blk b5 [.int .i64 t.frm, .slice (some ⟨gh, 0, none⟩) t.ticks.toNat ch0] 41 :: blk b4 [.int .i64 t.frm, .slice (some ⟨gl, 0, none⟩) t.ticks.toNat cl0] 41 :: []) → Sl w 1 RInt (.slice al1 (lowB (boxAt (boxS t now) (k + 1))).length cl1) (lowB (boxAt (boxS t now) (k + 1))) := fun w hS => by rw [← e1]; exact in_sl1 (hS.ok (packI (inI (ls.drop 1) (((boxS t now).map lowB).drop 1))) (by simp)) hl2 hkn hb1.2.2.1
     have hq2 : ∀ w, StX [] w0 w (blk b9 (bxC t.frm (boxAt (boxS t now) (k + 1)).mem (.slice am1 (boxAt (boxS t now) (k + 1)).mem.length cm1) (.slice al1 (lowB (boxAt (boxS t now) (k + 1))).length cl1) (.slice ah1 (highB (boxAt (boxS t now) (k + 1))).length ch1)) 115 :: rowI (.slice (some ⟨gl, 0, none⟩) t.ticks.toNat cl0) 3 1 t.ticks.toNat ((envK (envLo t now) t.ticks.toNat (k + 1) (i)).flatMap Bx.encI) :: rowI (.slice (some ⟨gh, 0, none⟩) t.ticks.toNat ch0) 3 1 t.ticks.toNat ((envK (envHi t now) t.ticks.toNat (k + 1) (i)).flatMap Bx.encI) :: rowI (.slice (some ⟨gb, 0, none⟩) (boxS t now).length cv2) 115 9 (boxS t now).length (bxCs t.frm ((boxS t now).map Bo.mem) ms ls hs).flatten :: packI (inI ms ((boxS t now).map Bo.mem)) :: packI (inI (ls.drop 1) (((boxS t now).map lowB).drop 1)) :: packI (inI (hs.drop 1) (((boxS t now).map highB).drop 1)) :: blk b5 [.int .i64 t.frm, .slice (some ⟨gh, 0, none⟩) t.ticks.toNat ch0] 41 :: blk b4 [.int .i64 t.frm, .slice (some ⟨gl, 0, none⟩) t.ticks.toNat cl0] 41 :: []) → Sl w 1 RInt (.slice ah1 (highB (boxAt (boxS t now) (k + 1))).length ch1) (highB (boxAt (boxS t now) (k + 1))) := fun w hS => by rw [← e2]; exact in_sl1 (hS.ok (packI (inI (hs.drop 1) (((boxS t now).map highB).drop 1))) (by simp)) hl3 hkn hb1.2.2.2
     have hg1 : (lowB (boxAt (boxS t now) (k + 1)))[i]? = some ((lowB (boxAt (boxS t now) (k + 1))).getD i 0) := by simp [List.getD, show i < (lowB (boxAt (boxS t now) (k + 1))).length by omega]
     have hg2 : (highB (boxAt (boxS t now) (k + 1)))[i]? = some ((highB (boxAt (boxS t now) (k + 1))).getD i 0) := by simp [List.getD, show i < (highB (boxAt (boxS t now) (k + 1))).length by omega]
     obtain ⟨bx, ox, -, rfl, -⟩ := sl_at (hq1 w hS) hg1
     obtain ⟨by2, oy, -, rfl, -⟩ := sl_at (hq2 w hS) hg2
     have hge1 := envK_here (f := envLo t now) (q := k + 1) hil
     have hge2 := envK_here (f := envHi t now) (q := k + 1) hil
     refine skip <| cwQ <| seq <| block <| seq <| region <| sv (yMove h42) <| sv (yAsg rfl) <| nil ?_
     refine cwQ ?_
     refine region_two mixed [0, 1, 0, 0, 2, 0, 0, 1, 0, 0, 1, 0, 0, 0, 1, 0, 0, 1, 0, 0, 2, 0, 0, 1, 0, 0, 0, 2, 0, 0, 1, 0, 0] 33 35 (fun w => StX [] w0 w (blk b9 (bxC t.frm (boxAt (boxS t now) (k + 1)).mem (.slice am1 (boxAt (boxS t now) (k + 1)).mem.length cm1) (.slice (some ⟨bx, ox, none⟩) (lowB (boxAt (boxS t now) (k + 1))).length cl1) (.slice (some ⟨by2, oy, none⟩) (highB (boxAt (boxS t now) (k + 1))).length ch1)) 115 :: rowI (.slice (some ⟨gl, 0, none⟩) t.ticks.toNat cl0) 3 1 t.ticks.toNat ((envK (envLo t now) t.ticks.toNat (k + 1) (i)).flatMap Bx.encI) :: rowI (.slice (some ⟨gh, 0, none⟩) t.ticks.toNat ch0) 3 1 t.ticks.toNat ((envK (envHi t now) t.ticks.toNat (k + 1) (i)).flatMap Bx.encI) :: rowI (.slice (some ⟨gb, 0, none⟩) (boxS t now).length cv2) 115 9 (boxS t now).length (bxCs t.frm ((boxS t now).map Bo.mem) ms ls hs).flatten :: packI (inI ms ((boxS t now).map Bo.mem)) :: packI (inI (ls.drop 1) (((boxS t now).map lowB).drop 1)) :: packI (inI (hs.drop 1) (((boxS t now).map highB).drop 1)) :: blk b5 [.int .i64 t.frm, .slice (some ⟨gh, 0, none⟩) t.ticks.toNat ch0] 41 :: blk b4 [.int .i64 t.frm, .slice (some ⟨gl, 0, none⟩) t.ticks.toNat cl0] 41 :: [])) (fun w => StX [] w0 w (blk b9 (bxC t.frm (boxAt (boxS t now) (k + 1)).mem (.slice am1 (boxAt (boxS t now) (k + 1)).mem.length cm1) (.slice (some ⟨bx, ox, none⟩) (lowB (boxAt (boxS t now) (k + 1))).length cl1) (.slice (some ⟨by2, oy, none⟩) (highB (boxAt (boxS t now) (k + 1))).length ch1)) 115 :: rowI (.slice (some ⟨gb, 0, none⟩) (boxS t now).length cv2) 115 9 (boxS t now).length (bxCs t.frm ((boxS t now).map Bo.mem) ms ls hs).flatten :: packI (inI ms ((boxS t now).map Bo.mem)) :: packI (inI (ls.drop 1) (((boxS t now).map lowB).drop 1)) :: packI (inI (hs.drop 1) (((boxS t now).map highB).drop 1)) :: blk b5 [.int .i64 t.frm, .slice (some ⟨gh, 0, none⟩) t.ticks.toNat ch0] 41 :: blk b4 [.int .i64 t.frm, .slice (some ⟨gl, 0, none⟩) t.ticks.toNat cl0] 41 :: [])) (by kernel_rfl) (fun c a a' w h => by obtain ⟨_, v, hv, _⟩ := h; cases hv) hS (fun _ h => h) (fun _ h => h.sub (.cons_cons _ (.cons _ (.cons _ lrQ)))) ?_
     clear hS; intro w hS
     refine hv0 (fun w => (fa41_1 h4)) <| hv1 (fun w hS => (yLdB rfl Tryz.isAgg39 (hS.at _) rfl)) <| hv0 (fun w => (yMove rfl)) <| hv0 (fun w => (fa41_1 h5)) <| hv2 (fun w hS => (yLdB rfl Tryz.isAgg39 (hS.at _) rfl)) <| hv0 (fun w => (yMove rfl)) <| hv0 (fun w => (fa41_1 h4)) <| hv1 (fun w hS => (yLdB rfl Tryz.isAgg39 (hS.at _) rfl)) <| hv0 (fun w => (yMove rfl)) ?_
     refine hv0 (fun w => (Y.to (yIxa rfl rfl rfl Tryz.runUnderlying39 Tryz.sizeOf3 (by omega) (by omega)) (congrArg (fun q => Value.pointer (some ⟨gl, q, none⟩)) (show 0 + (i : Int).toNat * 1 = i * 1 by omega)))) <| hv1 (fun w hS => (yLd rfl Tryz.isAgg3 (flat_cells0 (enc := Bx.encI) Bx.encI_len (row_at (hS.row (.slice (some ⟨gl, 0, none⟩) t.ticks.toNat cl0)) rfl (by omega)) hge1).one)) <| hv0 (fun w => (fa115_1 h9)) <| hv0 (fun w => (fa43_1 rfl)) <| hv0 (fun w => (fa41_1 rfl)) <| hv1 (fun w hS => (yLdB rfl Tryz.isAgg39 (hS.at _) rfl)) <| hv0 (fun w => (yMove rfl)) <| hv0 (fun w => (yIxa rfl rfl rfl Tryz.runUnderlying39 Tryz.sizeOf3 (by omega) (by omega))) <| hv1 (fun w hS => (yLd rfl Tryz.isAgg3 (sl_cell (hq1 w hS) hg1))) ?_
     refine hv0 (fun w => (yMin rfl rfl)) <| hv0 (fun w => (fa41_1 h5)) <| hv2 (fun w hS => (yLdB rfl Tryz.isAgg39 (hS.at _) rfl)) <| hv0 (fun w => (yMove rfl)) <| hv0 (fun w => (Y.to (yIxa rfl rfl rfl Tryz.runUnderlying39 Tryz.sizeOf3 (by omega) (by omega)) (congrArg (fun q => Value.pointer (some ⟨gh, q, none⟩)) (show 0 + (i : Int).toNat * 1 = i * 1 by omega)))) <| hv1 (fun w hS => (yLd rfl Tryz.isAgg3 (flat_cells0 (enc := Bx.encI) Bx.encI_len (row_at (hS.row (.slice (some ⟨gh, 0, none⟩) t.ticks.toNat ch0)) rfl (by omega)) hge2).one)) <| hv0 (fun w => (fa115_1 h9)) <| hv0 (fun w => (fa43_2 rfl)) <| hv0 (fun w => (fa41_1 rfl)) ?_
     refine hv2 (fun w hS => (yLdB rfl Tryz.isAgg39 (hS.at _) rfl)) <| hv0 (fun w => (yMove rfl)) <| hv0 (fun w => (yIxa rfl rfl rfl Tryz.runUnderlying39 Tryz.sizeOf3 (by omega) (by omega))) <| hv1 (fun w hS => (yLd rfl Tryz.isAgg3 (sl_cell (hq2 w hS) hg2))) <| hv0 (fun w => (yMax rfl rfl)) <| hv0 (fun w => (Y.to (yIxa rfl rfl rfl Tryz.runUnderlying39 Tryz.sizeOf3 (by omega) (by omega)) (congrArg (fun q => Value.pointer (some ⟨gl, q, none⟩)) (show 0 + (i : Int).toNat * 1 = i * 1 by omega)))) <| hgnil ?_
     show wpR _ _ _ _ _ _ _ _ _ _ _ _
     refine r_step (i := 33) (is := []) (by kernel_rfl) ⟨?_, trivial⟩
     refine ⟨_, rfl, ?_⟩
     refine srst (m := t.ticks.toNat) (cap := cl0) (sz := 1) (vs := [.int .i64 (min (envLo t now i (k + 1)) ((lowB (boxAt (boxS t now) (k + 1))).getD i 0))]) hS rfl rfl Tryz.sizeOf3 rfl rfl (by omega) rfl ?_; clear hS; intro w hS
     rw [env_store (f := envLo t now) hil (envLo_succ i (k + 1))] at hS
     refine nil ?_
     refine ⟨⟨fun h => absurd h (by decide), fun _ _ => (hS.sub (.cons_cons _ (.cons _ (.cons _ lrQ))))⟩, ?_⟩
     show wpR _ _ _ _ _ _ _ _ _ _ _ _
     refine r_step (i := 34) (is := []) (by kernel_rfl) ⟨?_, trivial⟩
     refine ⟨_, rfl, ?_⟩
     refine sv (Y.to (yIxa rfl rfl rfl Tryz.runUnderlying39 Tryz.sizeOf3 (by omega) (by omega)) (congrArg (fun q => Value.pointer (some ⟨gh, q, none⟩)) (show 0 + (i : Int).toNat * 1 = i * 1 by omega))) <| nil ?_
     refine ⟨⟨fun _ h => h, fun _ h => h⟩, ?_⟩
     show wpR _ _ _ _ _ _ _ _ _ _ _ _
     refine r_step (i := 35) (is := []) (by kernel_rfl) ⟨?_, trivial⟩
     refine ⟨_, rfl, ?_⟩
     refine srst (m := t.ticks.toNat) (cap := ch0) (sz := 1) (vs := [.int .i64 (max (envHi t now i (k + 1)) ((highB (boxAt (boxS t now) (k + 1))).getD i 0))]) hS rfl rfl Tryz.sizeOf3 rfl rfl (by omega) rfl ?_; clear hS; intro w hS
     rw [env_store (f := envHi t now) hil (envHi_succ i (k + 1))] at hS
     refine nil ?_
     refine ⟨⟨fun h => absurd h (by decide), fun h => absurd h (by decide)⟩, ?_⟩
     show wpR _ _ _ _ _ _ _ _ _ _ _ _
     refine r_end (by kernel_rfl) <| cwQ <| region <| sv (yAdd h42 rfl ⟨by omega, by omega⟩) <| sv (yMove rfl) <| nil ?_
     exact ⟨_, _, rfl, ⟨i + 1, h4, h5, h33, h34, h35, h9, h41, rfl, hS, (by omega), rfl⟩, by omega⟩
    ·
     simp only [BS, ne_eq] at c43
     obtain rfl : i = t.ticks.toNat := by omega
     refine exit <| cwQ <| region <| sv (yAdd h35 rfl ⟨by omega, by omega⟩) <| sv (yMove rfl) <| nil ?_
     exact ⟨_, _, rfl, ⟨k + 1, h4, h5, h33, h34, rfl, (by rw [envK_next, envK_next] at hS; exact hS.sub (.cons _ lrQ)), (by omega), rfl⟩, by omega⟩
   ·
    simp only [BS, ne_eq] at c36
    have hkk : k + 1 = (boxS t now).length := by omega
    refine exit <| cwQ <| seq <| region_mix (fun w => StX [] w0 w (rowI (.slice (some ⟨gl, 0, none⟩) t.ticks.toNat cl0) 3 1 t.ticks.toNat ((envK (envLo t now) t.ticks.toNat (k + 1) (0)).flatMap Bx.encI) :: rowI (.slice (some ⟨gh, 0, none⟩) t.ticks.toNat ch0) 3 1 t.ticks.toNat ((envK (envHi t now) t.ticks.toNat (k + 1) (0)).flatMap Bx.encI) :: rowI (.slice (some ⟨gb, 0, none⟩) (boxS t now).length cv2) 115 9 (boxS t now).length (bxCs t.frm ((boxS t now).map Bo.mem) ms ls hs).flatten :: packI (inI ms ((boxS t now).map Bo.mem)) :: packI (inI (ls.drop 1) (((boxS t now).map lowB).drop 1)) :: packI (inI (hs.drop 1) (((boxS t now).map highB).drop 1)) :: blk b5 [.int .i64 t.frm, .slice (some ⟨gh, 0, none⟩) t.ticks.toNat ch0] 41 :: blk b4 [.int .i64 t.frm, .slice (some ⟨gl, 0, none⟩) t.ticks.toNat cl0] 41 :: [])) 3 mixed hS ?_
    clear hS; intro w hS
    refine f_step 0 (by kernel_rfl) rfl (fun c a a' w h => by obtain ⟨_, v, hv, _⟩ := h; cases hv) hS (fun w hS => (yLdBA h4 Tryz.isAgg41 Tryz.sizeOf41 (hS.at _) rfl rfl)) ?_
    refine f_step 1 (by kernel_rfl) rfl (fun c a a' w h => by obtain ⟨_, v, hv, _⟩ := h; cases hv) hS (fun w hS => (yLdBA h5 Tryz.isAgg41 Tryz.sizeOf41 (hS.at _) rfl rfl)) ?_
    refine awQ <| a1Q 2 (by kernel_rfl) rfl ?_
    refine sst hS h4 rfl Tryz.sizeOf41 rfl rfl rfl rfl ?_; clear hS; intro w hS
    refine nil ?_
    refine ⟨fun _ => hS, ?_⟩
    refine awQ <| awQ <| a1Q 3 (by kernel_rfl) rfl ?_
    refine sst hS h5 rfl Tryz.sizeOf41 rfl rfl rfl rfl ?_; clear hS; intro w hS
    refine nil ?_
    refine ⟨fun h => absurd h (by decide), ?_⟩
    refine awQ <| awQ <| a1Q 4 (by kernel_rfl) rfl <| sv (yAsg rfl) <| nil ?_
    refine ⟨fun h => absurd h (by decide), ?_⟩
    refine awQ <| a_end (by kernel_rfl) <| cwQ <| wp_ret <| retQ (resV3 rfl (rc h4 Tryz.isAgg41 Tryz.sizeOf41 (hS.at _) rfl rfl) (rc h5 Tryz.isAgg41 Tryz.sizeOf41 (hS.at _) rfl rfl) (rt rfl)) ?_
    have hf : envR t now = (⟨t.frm, (List.range t.ticks.toNat).map fun i => envLo t now i (boxS t now).length⟩, ⟨t.frm, (List.range t.ticks.toNat).map fun i => envHi t now i (boxS t now).length⟩, 0) := by unfold envR; rw [if_neg (fun k => k he)]
    rw [hf]
    rw [hkk] at hS
    exact ⟨_, _, [rowI (.slice (some ⟨gl, 0, none⟩) t.ticks.toNat cl0) 3 1 t.ticks.toNat ((envK (envLo t now) t.ticks.toNat ((boxS t now).length) (0)).flatMap Bx.encI), rowI (.slice (some ⟨gh, 0, none⟩) t.ticks.toNat ch0) 3 1 t.ticks.toNat ((envK (envHi t now) t.ticks.toNat ((boxS t now).length) (0)).flatMap Bx.encI)], rfl, fun w2 hi => ⟨by show Sl w2 1 RInt _ ((List.range t.ticks.toNat).map fun i => envLo t now i (boxS t now).length); rw [← envK_all]; exact sl_ints (hi (rowI (.slice (some ⟨gl, 0, none⟩) t.ticks.toNat cl0) 3 1 t.ticks.toNat ((envK (envLo t now) t.ticks.toNat ((boxS t now).length) (0)).flatMap Bx.encI)) (by simp)) envK_len (envK_i64 hok).1, by show Sl w2 1 RInt _ ((List.range t.ticks.toNat).map fun i => envHi t now i (boxS t now).length); rw [← envK_all]; exact sl_ints (hi (rowI (.slice (some ⟨gh, 0, none⟩) t.ticks.toNat ch0) 3 1 t.ticks.toNat ((envK (envHi t now) t.ticks.toNat ((boxS t now).length) (0)).flatMap Bx.encI)) (by simp)) envK_len (envK_i64 hok).2⟩, StX.pack (M := [rowI (.slice (some ⟨gl, 0, none⟩) t.ticks.toNat cl0) 3 1 t.ticks.toNat ((envK (envLo t now) t.ticks.toNat ((boxS t now).length) (0)).flatMap Bx.encI), rowI (.slice (some ⟨gh, 0, none⟩) t.ticks.toNat ch0) 3 1 t.ticks.toNat ((envK (envHi t now) t.ticks.toNat ((boxS t now).length) (0)).flatMap Bx.encI)]) (hS.sub (List.sublist_append_left [_, _] _))⟩
end Go.Proofs.YtgidbailiababaaGreatDoor

/- part Sx22 -/
namespace Go.Proofs.YtgidbailiababaaGreatDoor
open Go Bx
set_option maxHeartbeats 4000000 in
theorem c_Peak {t : Sgt} {cv : Value} {ag ak ae : Option Addr} {cg ck ce : Nat} {now : Int} {w0 : World} (h : RSgt w0 [.int .i64 t.table.mean, cv, .slice ag t.gauges.length cg, .int .i64 t.wrong, .int .i64 t.frm, .int .i64 t.ticks, .slice ak t.ctrs.length ck, .slice ae t.fcs.length ce, .int .i64 t.least, .int .i64 t.most, .int .i64 t.rate, .int .i64 t.quorum] t) (hg : Glb w0) (hI : I64 now) : CV Tryz.prog 50 #[.agg [.int .i64 t.table.mean, cv, .slice ag t.gauges.length cg, .int .i64 t.wrong, .int .i64 t.frm, .int .i64 t.ticks, .slice ak t.ctrs.length ck, .slice ae t.fcs.length ce, .int .i64 t.least, .int .i64 t.most, .int .i64 t.rate, .int .i64 t.quorum].toArray, .int .i64 now] w0 (.tuple #[.agg (spanC (peakR t now).1).toArray, .int .i64 (peakR t now).2]) := by
 obtain ⟨hT, hG, hw64, hf64, hk64, hC, hF, hl64, hm64, hr64, hq64⟩ := RSgt.parts h
 refine enter Tryz.func50 rfl Tryz.ntmps50 rfl ?_
 have hS := St.start w0
 refine seq <| region ?_
 refine sbox hS rfl rfl ?_; clear hS; intro b2 w hS
 refine salloc hS Tryz.zeroValue74 rfl ?_; clear hS; intro b4 w hS
 refine sv (yAsg rfl) <| nil <| cwQ <| seq <| region <| sv (yLdBA rfl Tryz.isAgg29 Tryz.sizeOf29 (hS.at _) rfl rfl) <| sv (yMove rfl) ?_
 refine scall Tryz.call93 (.cons rfl (.cons rfl .nil)) (c_someS (h.ext hS.ext) (hg.ext hS.ext) hI) ?_
 rintro _ w (⟨he, ev, rfl, hE⟩ | ⟨he, av, cv2, ms, ls, hs, rfl, hl, hM⟩)
 ·
  replace hS := hS.step hE; clear hE
  refine sv (yMove rfl) <| sv (yExt rfl rfl) <| sv (yExt rfl rfl) <| sv (yAsg rfl) <| sv (yAsg rfl) <| nil <| cwQ <| seq <| seq ?_
  refine region <| sv (yMove rfl) <| sv (yNeq rfl rfl) <| nil <| cwQ ?_
  refine cond rfl (fun c19 => ?_) (fun c19 => ?_)
  ·
   simp only [BS, ne_eq] at c19
   refine seq <| region <| sv (yBuild Tryz.zeroValue74 rfl pl74 .nil rfl) <| sv (yMove rfl) ?_
   refine sst hS rfl rfl Tryz.sizeOf74 rfl rfl rfl rfl ?_; clear hS; intro w hS
   refine sv (yAsg rfl) <| nil <| cwQ ?_
   refine wp_ret (thenR ?_)
   refine retQ (resV2 rfl (rc rfl Tryz.isAgg74 Tryz.sizeOf74 (hS.at _) rfl rfl) (rt rfl)) ?_
   have hf : peakR t now = (⟨0, 0⟩, smE t now) := by unfold peakR; rw [if_pos he]
   rw [hf]
   exact ⟨rfl, hS.ext⟩
  ·
   simp only [BS, ne_eq] at c19
   exact absurd c19 he
 ·
  replace hS := hS.call hM; clear hM
  obtain ⟨hl1, hl2, hl3⟩ := hl
  obtain ⟨hask, hpos⟩ := smE_box he
  obtain ⟨hok, hnow⟩ := askE_ok hask
  have htk := hok.tk
  have hbn : (boxS t now).length ≤ 625 := Nat.le_trans boxL_len (cho_bd hok)
  replace hS : StX [] w0 w (rowI (.slice av (boxS t now).length cv2) 115 9 (boxS t now).length (bxCs t.frm ((boxS t now).map Bo.mem) ms ls hs).flatten :: packI (inI ms ((boxS t now).map Bo.mem)) :: packI (inI ls ((boxS t now).map lowB)) :: packI (inI hs ((boxS t now).map highB)) :: blk b4 [.int .i64 0, .int .i64 0] 74 :: blk b2 [.int .i64 t.table.mean, cv, .slice ag t.gauges.length cg, .int .i64 t.wrong, .int .i64 t.frm, .int .i64 t.ticks, .slice ak t.ctrs.length ck, .slice ae t.fcs.length ce, .int .i64 t.least, .int .i64 t.most, .int .i64 t.rate, .int .i64 t.quorum] 29 :: []) := hS
  refine sv (yMove rfl) <| sv (yExt rfl rfl) <| sv (yExt rfl rfl) <| sv (yAsg rfl) <| sv (yAsg rfl) <| nil <| cwQ <| seq <| seq ?_
  refine region <| sv (yMove rfl) <| sv (yNeq rfl rfl) <| nil <| cwQ ?_
  refine cond rfl (fun c19 => ?_) (fun c19 => ?_)
  ·
   exact absurd c19 (by decide)
  ·
   refine skip <| cwQ <| seq <| region <| sv (yAsg rfl) <| sv (yAsg rfl) <| nil <| cwQ <| seq ?_
   refine seq <| region <| sv (yMove rfl) <| sv (yLen rfl Tryz.underlying110) <| sv (yMove rfl) <| nil <| cwQ <| block <| loop (fun f w zz => ∃ (k : Nat) (lv hv : Value), f 4 = .pointer (some ⟨b4, 0, none⟩) ∧ f 8 = lv ∧ f 9 = hv ∧ f 22 = .slice av (boxS t now).length cv2 ∧ f 23 = .int .i64 ((boxS t now).length : Int) ∧ f 24 = .int .i64 (k : Int) ∧ StX [] w0 w (rowI (lv) 3 1 (k) ((topLo t now (k)).flatMap Bx.encI) :: rowI (hv) 3 1 (k) ((topHi t now (k)).flatMap Bx.encI) :: rowI (.slice av (boxS t now).length cv2) 115 9 (boxS t now).length (bxCs t.frm ((boxS t now).map Bo.mem) ms ls hs).flatten :: packI (inI ms ((boxS t now).map Bo.mem)) :: packI (inI ls ((boxS t now).map lowB)) :: packI (inI hs ((boxS t now).map highB)) :: blk b4 [.int .i64 0, .int .i64 0] 74 :: []) ∧ (k ≤ (boxS t now).length) ∧ zz = (boxS t now).length - k) _ ⟨_, rfl, 0, _, _, rfl, rfl, rfl, rfl, rfl, rfl, (((hS.sub (List.sublist_append_left [_, _, _, _, _] _)).nilrow 3 1).nilrow 3 1), (Nat.zero_le _), rfl⟩ ?_
   clear hS
   rintro f w _ ⟨k, lv, hv, h4, h8, h9, h22, h23, h24, hS, hk, rfl⟩
   refine seq <| region <| sv (yLss h24 h23) <| nil <| cwQ <| seq ?_
   refine cond rfl (fun c25 => ?_) (fun c25 => ?_)
   ·
    simp only [BS, ne_eq] at c25
    have hkn : k < (boxS t now).length := by omega
    obtain ⟨gb, am, cm, al, cl, ah, ch, hgb, hcb, hes, -, -, -⟩ := (bx_at (hS.row (.slice av (boxS t now).length cv2)) hkn rfl hl1 hl2 hl3 (fun b hb => box_ok hok hb) (hS.ok (packI (inI ms ((boxS t now).map Bo.mem))) (by simp)) (hS.ok (packI (inI ls ((boxS t now).map lowB))) (by simp)) (hS.ok (packI (inI hs ((boxS t now).map highB))) (by simp)))
    have hb1 := box_ok hok (boxAt_mem hkn)
    have hn2 := (high_len (boxAt_mem hkn)).1
    have hn3 := (high_len (boxAt_mem hkn)).2
    refine skip <| cwQ <| seq <| block <| seq <| region <| sv (yIxa h22 hgb h24 Tryz.runUnderlying110 Tryz.sizeOf115 (by omega) (by omega)) <| sv (yLdA rfl Tryz.isAgg115 Tryz.sizeOf115 hcb rfl) ?_
    refine salloc hS Tryz.zeroValue115 rfl ?_; clear hS; intro b11 w hS
    refine sst hS rfl rfl Tryz.sizeOf115 rfl rfl rfl rfl ?_; clear hS; intro w hS
    refine nil <| cwQ <| region_mix (fun w => StX [] w0 w (blk b11 (bxC t.frm (boxAt (boxS t now) k).mem (.slice am (boxAt (boxS t now) k).mem.length cm) (.slice al (lowB (boxAt (boxS t now) k)).length cl) (.slice ah (highB (boxAt (boxS t now) k)).length ch)) 115 :: rowI (.slice av (boxS t now).length cv2) 115 9 (boxS t now).length (bxCs t.frm ((boxS t now).map Bo.mem) ms ls hs).flatten :: packI (inI ms ((boxS t now).map Bo.mem)) :: packI (inI ls ((boxS t now).map lowB)) :: packI (inI hs ((boxS t now).map highB)) :: [])) 18 mixed hS ?_
    clear hS; intro w hS
    have hq1 : ∀ w, StX [] w0 w (blk b11 (bxC t.frm (boxAt (boxS t now) k).mem (.slice am (boxAt (boxS t now) k).mem.length cm) (.slice al (lowB (boxAt (boxS t now) k)).length cl) (.slice ah (highB (boxAt (boxS t now) k)).length ch)) 115 :: rowI (.slice av (boxS t now).length cv2) 115 9 (boxS t now).length (bxCs t.frm ((boxS t now).map Bo.mem) ms ls hs).flatten :: packI (inI ms ((boxS t now).map Bo.mem)) :: packI (inI ls ((boxS t now).map lowB)) :: packI (inI hs ((boxS t now).map highB)) :: []) → Sl w 1 RInt (.slice al (lowB (boxAt (boxS t now) k)).length cl) (lowB (boxAt (boxS t now) k)) := fun w hS => by rw [← hes.2.1]; exact in_sl (f := lowB) (StX.ok (S := []) (w0 := w0) (L := blk b11 (bxC t.frm (boxAt (boxS t now) k).mem (.slice am (boxAt (boxS t now) k).mem.length cm) (.slice al (lowB (boxAt (boxS t now) k)).length cl) (.slice ah (highB (boxAt (boxS t now) k)).length ch)) 115 :: rowI (.slice av (boxS t now).length cv2) 115 9 (boxS t now).length (bxCs t.frm ((boxS t now).map Bo.mem) ms ls hs).flatten :: packI (inI ms ((boxS t now).map Bo.mem)) :: packI (inI ls ((boxS t now).map lowB)) :: packI (inI hs ((boxS t now).map highB)) :: []) hS (packI (inI ls ((boxS t now).map lowB))) (by simp)) hl2 hkn hb1.2.2.1
    have hq2 : ∀ w, StX [] w0 w (blk b11 (bxC t.frm (boxAt (boxS t now) k).mem (.slice am (boxAt (boxS t now) k).mem.length cm) (.slice al (lowB (boxAt (boxS t now) k)).length cl) (.slice ah (highB (boxAt (boxS t now) k)).length ch)) 115 :: rowI (.slice av (boxS t now).length cv2) 115 9 (boxS t now).length (bxCs t.frm ((boxS t now).map Bo.mem) ms ls hs).flatten :: packI (inI ms ((boxS t now).map Bo.mem)) :: packI (inI ls ((boxS t now).map lowB)) :: packI (inI hs ((boxS t now).map highB)) :: []) → Sl w 1 RInt (.slice ah (highB (boxAt (boxS t now) k)).length ch) (highB (boxAt (boxS t now) k)) := fun w hS => by rw [← hes.2.2]; exact in_sl (f := highB) (StX.ok (S := []) (w0 := w0) (L := blk b11 (bxC t.frm (boxAt (boxS t now) k).mem (.slice am (boxAt (boxS t now) k).mem.length cm) (.slice al (lowB (boxAt (boxS t now) k)).length cl) (.slice ah (highB (boxAt (boxS t now) k)).length ch)) 115 :: rowI (.slice av (boxS t now).length cv2) 115 9 (boxS t now).length (bxCs t.frm ((boxS t now).map Bo.mem) ms ls hs).flatten :: packI (inI ms ((boxS t now).map Bo.mem)) :: packI (inI ls ((boxS t now).map lowB)) :: packI (inI hs ((boxS t now).map highB)) :: []) hS (packI (inI hs ((boxS t now).map highB))) (by simp)) hl3 hkn hb1.2.2.2
    refine f_step 0 (by kernel_rfl) rfl (fun c a a' w h => by obtain ⟨_, v, hv, _⟩ := h; cases hv) (by refine hS.sub ?_; repeat first | exact List.Sublist.refl _ | exact List.nil_sublist _ | apply List.Sublist.cons_cons | apply List.Sublist.cons) (fun w hS => (yMove h8)) ?_
    refine f_step 1 (by kernel_rfl) rfl (fun c a a' w h => by obtain ⟨_, v, hv, _⟩ := h; cases hv) (by refine hS.sub ?_; repeat first | exact List.Sublist.refl _ | exact List.nil_sublist _ | apply List.Sublist.cons_cons | apply List.Sublist.cons) (fun w hS => (fa115_1 rfl)) ?_
    refine f_step 2 (by kernel_rfl) rfl (fun c a a' w h => by obtain ⟨_, v, hv, _⟩ := h; cases hv) (by refine hS.sub ?_; repeat first | exact List.Sublist.refl _ | exact List.nil_sublist _ | apply List.Sublist.cons_cons | apply List.Sublist.cons) (fun w hS => (fa43_1 rfl)) ?_
    refine f_step 3 (by kernel_rfl) rfl (fun c a a' w h => by obtain ⟨_, v, hv, _⟩ := h; cases hv) (by refine hS.sub ?_; repeat first | exact List.Sublist.refl _ | exact List.nil_sublist _ | apply List.Sublist.cons_cons | apply List.Sublist.cons) (fun w hS => (fa41_1 rfl)) ?_
    refine f_step 4 (by kernel_rfl) rfl (fun c a a' w h => by obtain ⟨_, v, hv, _⟩ := h; cases hv) (by refine hS.sub ?_; repeat first | exact List.Sublist.refl _ | exact List.nil_sublist _ | apply List.Sublist.cons_cons | apply List.Sublist.cons) (fun w hS => (yLdB rfl Tryz.isAgg39 (hS.at _) rfl)) ?_
    refine f_step 8 (by kernel_rfl) rfl (fun c a a' w h => by obtain ⟨_, v, hv, _⟩ := h; cases hv) (by refine hS.sub ?_; repeat first | exact List.Sublist.refl _ | exact List.nil_sublist _ | apply List.Sublist.cons_cons | apply List.Sublist.cons) (fun w hS => (yMove h9)) ?_
    refine f_step 9 (by kernel_rfl) rfl (fun c a a' w h => by obtain ⟨_, v, hv, _⟩ := h; cases hv) (by refine hS.sub ?_; repeat first | exact List.Sublist.refl _ | exact List.nil_sublist _ | apply List.Sublist.cons_cons | apply List.Sublist.cons) (fun w hS => (fa115_1 rfl)) ?_
    refine f_step 10 (by kernel_rfl) rfl (fun c a a' w h => by obtain ⟨_, v, hv, _⟩ := h; cases hv) (by refine hS.sub ?_; repeat first | exact List.Sublist.refl _ | exact List.nil_sublist _ | apply List.Sublist.cons_cons | apply List.Sublist.cons) (fun w hS => (fa43_2 rfl)) ?_
    refine f_step 11 (by kernel_rfl) rfl (fun c a a' w h => by obtain ⟨_, v, hv, _⟩ := h; cases hv) (by refine hS.sub ?_; repeat first | exact List.Sublist.refl _ | exact List.nil_sublist _ | apply List.Sublist.cons_cons | apply List.Sublist.cons) (fun w hS => (fa41_1 rfl)) ?_
    refine f_step 12 (by kernel_rfl) rfl (fun c a a' w h => by obtain ⟨_, v, hv, _⟩ := h; cases hv) (by refine hS.sub ?_; repeat first | exact List.Sublist.refl _ | exact List.nil_sublist _ | apply List.Sublist.cons_cons | apply List.Sublist.cons) (fun w hS => (yLdB rfl Tryz.isAgg39 (hS.at _) rfl)) ?_
    refine awQ <| a1Q 5 (by kernel_rfl) rfl ?_
    refine scall Tryz.call95 (.cons rfl .nil) (c_MaxI (hq1 w (by refine hS.sub ?_; repeat first | exact List.Sublist.refl _ | exact List.nil_sublist _ | apply List.Sublist.cons_cons | apply List.Sublist.cons)) (by omega)) ?_
    rintro _ w ⟨rfl, hE⟩; replace hS := hS.step hE; clear hE
    refine nil ?_
    refine ⟨fun _ => (by refine hS.sub ?_; repeat first | exact List.Sublist.refl _ | exact List.nil_sublist _ | apply List.Sublist.cons_cons | apply List.Sublist.cons), ?_⟩
    refine awQ <| awQ <| a1Q 6 (by kernel_rfl) rfl ?_
    refine sbslice hS Tryz.underlying39 Tryz.sizeOf3 rfl Tryz.zeroValue3 rfl (.cons rfl rfl .nil) rfl ?_; clear hS; intro b34 w hS
    refine nil ?_
    refine ⟨fun _ => (by refine hS.sub ?_; repeat first | exact List.Sublist.refl _ | exact List.nil_sublist _ | apply List.Sublist.cons_cons | apply List.Sublist.cons), ?_⟩
    refine awQ <| awQ <| a1Q 7 (by kernel_rfl) rfl ?_
    refine sapp (bytes := 8) (size := 1) (v := lv) (m := 1) hS rfl rfl Tryz.underlying39 ti3 rfl rfl rfl rfl (by decide) (blk_cells (hS.at _)) rfl rfl (by omega) (by omega) ?_; clear hS; intro v35 w hS
    refine nil ?_
    refine ⟨fun _ => (by refine hS.sub ?_; repeat first | exact List.Sublist.refl _ | exact List.nil_sublist _ | apply List.Sublist.cons_cons | apply List.Sublist.cons), ?_⟩
    refine awQ <| awQ <| a1Q 13 (by kernel_rfl) rfl ?_
    refine scall Tryz.call95 (.cons rfl .nil) (c_MaxI (hq2 w (by refine hS.sub ?_; repeat first | exact List.Sublist.refl _ | exact List.nil_sublist _ | apply List.Sublist.cons_cons | apply List.Sublist.cons)) (by omega)) ?_
    rintro _ w ⟨rfl, hE⟩; replace hS := hS.step hE; clear hE
    refine nil ?_
    refine ⟨fun _ => (by refine hS.sub ?_; repeat first | exact List.Sublist.refl _ | exact List.nil_sublist _ | apply List.Sublist.cons_cons | apply List.Sublist.cons), ?_⟩
    refine awQ <| awQ <| a1Q 14 (by kernel_rfl) rfl ?_
    refine sbslice hS Tryz.underlying39 Tryz.sizeOf3 rfl Tryz.zeroValue3 rfl (.cons rfl rfl .nil) rfl ?_; clear hS; intro b42 w hS
    refine nil ?_
    refine ⟨fun _ => (by refine hS.sub ?_; repeat first | exact List.Sublist.refl _ | exact List.nil_sublist _ | apply List.Sublist.cons_cons | apply List.Sublist.cons), ?_⟩
    refine awQ <| awQ <| a1Q 15 (by kernel_rfl) rfl ?_
    refine sapp (bytes := 8) (size := 1) (v := hv) (m := 1) hS rfl rfl Tryz.underlying39 ti3 rfl rfl rfl rfl (by decide) (blk_cells (hS.at _)) rfl rfl (by omega) (by omega) ?_; clear hS; intro v43 w hS
    refine nil ?_
    refine ⟨fun _ => (by refine hS.sub ?_; repeat first | exact List.Sublist.refl _ | exact List.nil_sublist _ | apply List.Sublist.cons_cons | apply List.Sublist.cons), ?_⟩
    refine awQ ?_
    refine f_step 16 (by kernel_rfl) rfl (fun c a a' w h => by obtain ⟨_, v, hv, _⟩ := h; cases hv) (by refine hS.sub ?_; repeat first | exact List.Sublist.refl _ | exact List.nil_sublist _ | apply List.Sublist.cons_cons | apply List.Sublist.cons) (fun w hS => (yAsg rfl)) ?_
    refine f_step 17 (by kernel_rfl) rfl (fun c a a' w h => by obtain ⟨_, v, hv, _⟩ := h; cases hv) (by refine hS.sub ?_; repeat first | exact List.Sublist.refl _ | exact List.nil_sublist _ | apply List.Sublist.cons_cons | apply List.Sublist.cons) (fun w hS => (yAsg rfl)) ?_
    refine a_end (by kernel_rfl) <| cwQ <| region <| sv (yAdd h24 rfl ⟨by omega, by omega⟩) <| sv (yMove rfl) <| nil ?_
    exact ⟨_, _, rfl, ⟨k + 1, _, _, h4, rfl, rfl, h22, h23, rfl, (by rw [topLo_succ, topHi_succ, List.flatMap_append, List.flatMap_append]; refine hS.sub ?_; repeat first | exact List.Sublist.refl _ | exact List.nil_sublist _ | apply List.Sublist.cons_cons | apply List.Sublist.cons), (by omega), rfl⟩, by omega⟩
   ·
    simp only [BS, ne_eq] at c25
    obtain rfl : k = (boxS t now).length := by omega
    have hi64 := topLo_i64 hok (Nat.le_refl (boxS t now).length)
    refine exit <| cwQ <| seq <| region <| sv (yMove h8) ?_
    refine scall Tryz.call96 (.cons rfl .nil) (c_MinI2 (sl_ints (hS.row lv) (topLo_len _) hi64.1) (by rw [topLo_len]; exact hpos)) ?_
    rintro _ w ⟨rfl, hE⟩; replace hS := hS.step hE; clear hE
    refine sv (yMove h9) ?_
    refine scall Tryz.call95 (.cons rfl .nil) (c_MaxI (sl_ints (hS.row hv) (topHi_len _) hi64.2) (by rw [topHi_len]; exact hpos)) ?_
    rintro _ w ⟨rfl, hE⟩; replace hS := hS.step hE; clear hE
    refine sv (yBuild Tryz.zeroValue74 rfl pl74 (.cons rfl rfl (.cons rfl rfl .nil)) rfl) ?_
    refine sst hS h4 rfl Tryz.sizeOf74 rfl rfl rfl rfl ?_; clear hS; intro w hS
    refine sv (yAsg rfl) <| nil <| cwQ <| wp_ret <| retQ (resV2 rfl (rc h4 Tryz.isAgg74 Tryz.sizeOf74 (hS.at _) rfl rfl) (rt rfl)) ?_
    have hf : peakR t now = (⟨peakLo t now (boxS t now).length, peakHi t now (boxS t now).length⟩, 0) := by unfold peakR; rw [if_neg (fun k => k he)]
    rw [hf, ← botL_peak hpos, ← topL_peak hpos]
    exact ⟨rfl, hS.ext⟩
end Go.Proofs.YtgidbailiababaaGreatDoor

/- part S37 -/
namespace Bx
open Go Go.RowKit
theorem spn_eq {a b : Span} (h : (!(decide (a.lo = b.lo) && decide (a.hi = b.hi))) = false) : a = b := by
  cases a; cases b
  simp at h
  simp [h]
theorem spn_ne {a b : Span} (h : (!(decide (a.lo = b.lo) && decide (a.hi = b.hi))) = true) : a ≠ b := by
  intro e
  subst e
  simp at h
section
variable {P : Program} {ρ : Operand → Value} {w : World} {ty : TypeId}
end
end Bx

/- part S38 -/
namespace Bx
open Go Go.RowKit
def kTk : List Int := [89, 90, 95, 96]
def kWt : List (List Int) := [[-1, -1], [0, -1], [0, 1], [2, 1]]
def kT2 : List Int := [88, 89, 100, 101]
def kW2 : List Int := [100, 150, 200, 250]
def kBx : List Bxs := [⟨[-1, 0], ⟨100, [1500, 2300, 2400]⟩, ⟨100, [3500, 2700, 2800]⟩⟩, ⟨[0, -1], ⟨100, [800, 1250, 1750]⟩, ⟨100, [1200, 1750, 2250]⟩⟩, ⟨[1, -1], ⟨100, [300, 450, 650]⟩, ⟨100, [700, 950, 1150]⟩⟩]
def kSr : Ser := ⟨100, [1000, 1500, 2000]⟩
def exM : Sgt := ⟨⟨0, []⟩, [], 0, 100, 3, [exC1, exC2], [exF1, exF2, exF3], -500, 2000, 800, 1⟩
def exQ : Sgt := ⟨⟨0, []⟩, [], 0, 100, 3, [exC1, exC2], [exF1, exF2, exF3], -500, 4000, 800, 2⟩
theorem exs_cur : ∀ k, k < 4 → curR exS (kTk.getD k 0) = (kWt.getD k [], 0) := by decide +kernel
theorem exs_err : ∀ k, k < 4 → errR exS (kT2.getD k 0) 0 = (kW2.getD k 0, 0) := by decide +kernel
theorem kTk_i64 : ∀ k, k < 4 → I64 (kTk.getD k 0) := by decide
theorem kT2_i64 : ∀ k, k < 4 → I64 (kT2.getD k 0) := by decide
theorem exs_tub2 : tubR exS 1 0 = ([⟨-20000, 20000⟩, ⟨2300, 2700⟩, ⟨2400, 2800⟩], 0) := by decide +kernel
theorem exs_ask : askE exS 95 = 0 := by decide +kernel
theorem exs_box : (boxS exS 95).map (toBxs exS.frm) = kBx := by kernel_rfl
theorem exs_env : envR exS 95 = (⟨100, [300, 450, 650]⟩, ⟨100, [3500, 2700, 2800]⟩, 0) := by decide +kernel
theorem exs_peak : peakR exS 95 = (⟨650, 3500⟩, 0) := by decide +kernel
theorem exs_rig : rigR exS 95 kSr = ([true, false], 0) := by decide +kernel
theorem exs_is5 : isR exS 95 kSr = (true, 0) := by decide +kernel
theorem exs_is6 : isR exS 96 kSr = (false, 0) := by decide +kernel
theorem exs_sus : susR exM 95 = ([1], 0) := by decide +kernel
theorem exs_envq : envR exQ 96 = (⟨0, []⟩, ⟨0, []⟩, 9) := by decide +kernel
section
variable {w : World} {cv fv : Value}
theorem exs_most (h : RSgt w [.int .i64 0, .slice none 0 0, .slice none 0 0, .int .i64 0, .int .i64 100, .int .i64 3, cv, fv, .int .i64 (-500), .int .i64 4000, .int .i64 800, .int .i64 1] exS) : RSgt w [.int .i64 0, .slice none 0 0, .slice none 0 0, .int .i64 0, .int .i64 100, .int .i64 3, cv, fv, .int .i64 (-500), .int .i64 2000, .int .i64 800, .int .i64 1] exM := by
  obtain ⟨_, _, _, _, e, h1, h2, h3, h4, h5, h6, h7, h8, h9, h10, h11⟩ := h
  cases e
  exact ⟨_, _, _, _, rfl, h1, h2, h3, h4, h5, h6, h7, h8, by decide, h10, h11⟩
theorem exs_quo (h : RSgt w [.int .i64 0, .slice none 0 0, .slice none 0 0, .int .i64 0, .int .i64 100, .int .i64 3, cv, fv, .int .i64 (-500), .int .i64 4000, .int .i64 800, .int .i64 1] exS) : RSgt w [.int .i64 0, .slice none 0 0, .slice none 0 0, .int .i64 0, .int .i64 100, .int .i64 3, cv, fv, .int .i64 (-500), .int .i64 4000, .int .i64 800, .int .i64 2] exQ := by
  obtain ⟨_, _, _, _, e, h1, h2, h3, h4, h5, h6, h7, h8, h9, h10, h11⟩ := h
  cases e
  exact ⟨_, _, _, _, rfl, h1, h2, h3, h4, h5, h6, h7, h8, h9, h10, by decide⟩
end
theorem StX.packAll {S : List Nat} {w0 w : World} {L : List Item} (h : StX S w0 w L) : StX S w0 w [packI L] := StX.pack (M := L) (by rw [List.append_nil]; exact h)
theorem okB {L : List Item} {w : World} (h : ∀ it ∈ L, it.ok w) (b : Nat) {o : Obj} [i : AtB L b (Eq o)] : w.heap[b]? = some o := by
  obtain ⟨o', h1, h2⟩ := i.get h
  rw [h1, h2]
section
variable {P : Program} {ρ : Operand → Value} {w : World} {ty : TypeId}
theorem yOrF {c a b : Operand} {B C : Bool} (hc : ρ c = .bool B) (hB : B = false) (ha : ρ a = .bool true) (hb : ρ b = .bool C) (hC : C = false) : Y P ρ (.pick c a b) ty w (.bool false) w := by
  subst hB hC
  exact yOr hc ha (fun _ => hb)
theorem yAndT {c a b : Operand} {B C : Bool} (hc : ρ c = .bool B) (hB : B = true) (ha : ρ a = .bool C) (hC : C = true) (hb : ρ b = .bool false) : Y P ρ (.pick c a b) ty w (.bool true) w := by
  subst hB hC
  exact yAnd hc (fun _ => ha) hb
end
end Bx

/- part Sy9 -/
namespace Go.Proofs.YtgidbailiababaaGreatDoor
open Go Bx
set_option maxHeartbeats 1000000 in
theorem c_SpansS {va vb : Value} {a b : List Span} {w0 : World} (ha : Sl w0 2 RSpan va a) (hb : Sl w0 2 RSpan vb b) : CV Tryz.prog 43 #[va, vb] w0 (.bool (decide (a = b))) := by
 obtain ⟨aa, ca, rfl, hacap, hamx, -⟩ := id ha
 obtain ⟨ab, cb, rfl, -⟩ := id hb
 refine enter Tryz.func43 rfl Tryz.ntmps43 rfl ?_
 have hS := St.start w0
 refine seq <| region <| sv (yAsg rfl) <| nil <| cwQ <| seq <| seq <| region <| sv (yMove rfl) ?_
 refine sv (yLen rfl Tryz.underlying86) <| sv (yMove rfl) <| sv (yLen rfl Tryz.underlying86) <| sv (yNeq rfl rfl) <| nil <| cwQ ?_
 refine cond rfl (fun c10 => ?_) (fun c10 => ?_)
 ·
  simp only [BS, ne_eq] at c10
  refine seq <| region <| sv (yAsg rfl) <| nil <| cwQ ?_
  refine wp_ret (thenR ?_)
  exact retV (res1 rfl (congrArg Value.bool (show false = decide (a = b) from (decide_eq_false (fun e => by rw [e] at c10; exact c10 rfl)).symm))) hS.ext
 ·
  simp only [BS, ne_eq] at c10
  have hl : a.length = b.length := by omega
  refine skip <| cwQ <| seq <| seq <| region <| sv (yAsg rfl) <| nil <| cwQ <| block ?_
  refine loop (fun f w zz => ∃ (k : Nat), f 0 = .slice aa a.length ca ∧ f 1 = .slice ab b.length cb ∧ f 5 = .int .i64 (k : Int) ∧ StX [] w0 w [] ∧ (k ≤ a.length) ∧ (∀ i, i < k → a[i]? = b[i]?) ∧ zz = a.length - k) _ ⟨_, rfl, 0, rfl, rfl, rfl, hS, (Nat.zero_le _), (fun i hi => absurd hi (Nat.not_lt_zero _)), rfl⟩ ?_
  clear hS
  rintro f w _ ⟨k, h0, h1, h5, hS, hk, hA, rfl⟩
  refine seq <| seq <| region <| sv (yMove h5) <| sv (yMove h0) <| sv (yLen rfl Tryz.underlying86) <| sv (yLss rfl rfl) <| nil <| cwQ ?_
  refine cond rfl (fun c14 => ?_) (fun c14 => ?_)
  ·
   simp only [BS, ne_eq] at c14
   have hkl : k < a.length := by omega
   obtain ⟨bx, ox, cx, hax, hlx, hcx, hRx, -⟩ := sl_at ha (spn_get hkl)
   obtain ⟨rfl, -⟩ := hRx
   obtain ⟨by0, oy, cy, hay, hly, hcy, hRy, -⟩ := sl_at hb (spn_get (show k < b.length by omega))
   obtain ⟨rfl, -⟩ := hRy
   refine skip <| cwQ <| seq <| block <| seq <| region_draw mixed (by kernel_rfl) hS <| qv (fun w hS => (yMove h0)) <| qv (fun w hS => (yMove h5)) <| qv (fun w hS => (yIxa rfl hax rfl Tryz.runUnderlying86 Tryz.sizeOf74 (by omega) (by omega))) ?_
   refine qv (fun w hS => (yLdA rfl Tryz.isAgg74 Tryz.sizeOf74 (hcx.ext hS.ext) rfl)) <| qv (fun w hS => (yMove h1)) <| qv (fun w hS => (yMove h5)) <| qv (fun w hS => (yIxa rfl hay rfl Tryz.runUnderlying86 Tryz.sizeOf74 (by omega) (by omega))) <| qv (fun w hS => (yLdA rfl Tryz.isAgg74 Tryz.sizeOf74 (hcy.ext hS.ext) rfl)) <| qv (fun w hS => (neS74 rfl rfl)) ?_
   clear hS; refine qnil (fun w hS => ?_)
   refine cwQ ?_
   refine cond rfl (fun c25 => ?_) (fun c25 => ?_)
   ·
    refine seq <| region <| sv (yAsg rfl) <| nil <| cwQ ?_
    refine wp_ret (blockR (thenR (thenR (blockR (thenR ?_)))))
    exact retV (res1 rfl (congrArg Value.bool (show false = decide (a = b) from (decide_eq_false (fun e => spn_ne c25 (by rw [e]))).symm))) hS.ext
   ·
    refine skip <| cwQ <| region <| sv (yMove h5) <| sv (yAdd rfl rfl ⟨by omega, by omega⟩) <| sv (yAsg rfl) <| nil ?_
    exact ⟨_, _, rfl, ⟨k + 1, h0, h1, rfl, hS, (by omega), (fun i hi => by
     by_cases e : i = k
     ·
      subst e
      rw [spn_get hkl, spn_get (show i < b.length by omega), spn_eq c25]
     ·
      exact hA i (by omega)), rfl⟩, by omega⟩
  ·
   simp only [BS, ne_eq] at c14
   obtain rfl : k = a.length := by omega
   refine exit <| cwQ <| seq <| region <| sv (yAsg rfl) <| nil <| cwQ <| wp_ret ?_
   exact retV (res1 rfl (congrArg Value.bool (show true = decide (a = b) from (decide_eq_true (eq_of_get hl hA)).symm))) hS.ext
end Go.Proofs.YtgidbailiababaaGreatDoor

/- part Laid -/
namespace Go.Proofs.YtgidbailiababaaGreatDoor
open Go Bx Go.ChangeShapes Go.WideShapes Go.RowKit
theorem laidEt : Tryz.prog.globalNamed "barrage/surge.level" = some 0 := by kernel_rfl
theorem laidTy : (Tryz.prog.globals[0]?).map (·.type) = some 74 := by kernel_rfl
theorem glb_of_laid {W : World} (h : laidMetH Tryz.prog [("barrage/surge.level", Rows.laid_barrage_surge_level)] W) : Glb W := by
  have h' : laidMet Tryz.prog [("barrage/surge.level", Rows.laid_barrage_surge_level)] W := h
  obtain ⟨ps, hv, -, -⟩ := h'
  obtain ⟨g, t, cs, fuel, p, q, hg, ht, hw, htr, -, -⟩ := hv
  obtain rfl : 0 = g := Option.some.inj (laidEt.symm.trans hg)
  obtain rfl : 74 = t := Option.some.inj (laidTy.symm.trans ht)
  obtain ⟨y0, y1, n, hx, hlen, h0, h1⟩ := trod_struct2 Tryz.underlying74 htr
  obtain ⟨a, e0, rfl, -⟩ := DataW.trod_int Tryz.underlying3 h0
  obtain ⟨b, e1, rfl, -⟩ := DataW.trod_int Tryz.underlying3 h1
  have hl2 : cs.toList.length = 2 := hlen.trans (by kernel_rfl)
  have hc : Tryz.prog.cellsOf 3 = 1 := by kernel_rfl
  obtain ⟨u0, u1, hcs⟩ : ∃ u0 u1, cs.toList = [u0, u1] := by
    match hm : cs.toList, hl2 with
    | [u0, u1], _ => exact ⟨u0, u1, rfl⟩
  rw [hcs] at e0 e1
  simp only [hc] at e0 e1
  have d0 : u0 = .int .i64 a := by simpa using e0
  have d1 : u1 = .int .i64 b := by simpa using e1
  have hd : (a = -20000) ∧ b = 20000 := by
    have := (Prod.mk.inj hx).1
    unfold Rows.laid_barrage_surge_level at this
    injection this with this
    simp only [List.cons.injEq, DataW.lit.injEq, Lit.int.injEq, and_true, true_and] at this
    exact ⟨this.1.symm, this.2.symm⟩
  obtain ⟨rfl, rfl⟩ := hd
  subst d0; subst d1
  intro j u hj
  have := World.var?_cell laidEt hw j
  rw [Nat.zero_add, this, ← Array.getElem?_toList, hcs]
  exact hj
noncomputable def laidWorld (os : Os) : World :=
  let w0 := World.holding Tryz.prog os ⟨#[], #[], []⟩
  { w0 with heap := w0.heap.modify 0 fun
      | .cells _ t frozen => .cells #[.int .i64 (-20000), .int .i64 20000] t frozen
      | o => o }
theorem laidWorld_met (os : Os) (args : Array Value) : laidMetH Tryz.prog [("barrage/surge.level", Rows.laid_barrage_surge_level)] ((laidWorld os).forCall (fun _ _ => 0) ⟨#[], args, []⟩).memory :=
  laidMetH_of_parts (laidMet_of_run (ps := [.cell 0 0, .cell 0 1]) 8 (by kernel_rfl) (by kernel_rfl) (by kernel_rfl)) (by kernel_rfl)
end Go.Proofs.YtgidbailiababaaGreatDoor

/- part Sy14 -/
namespace Go.Proofs.YtgidbailiababaaGreatDoor
open Go Bx
set_option maxHeartbeats 2000000 in
theorem c_ExampleP {w0 : World} : CE Tryz.prog 52 #[] w0 (fun u w' => ∃ bc bf its, u = .agg [.int .i64 0, .slice none 0 0, .slice none 0 0, .int .i64 0, .int .i64 100, .int .i64 3, .slice (some ⟨bc, 0, none⟩) 2 2, .slice (some ⟨bf, 0, none⟩) 3 3, .int .i64 (-500), .int .i64 4000, .int .i64 800, .int .i64 1].toArray ∧ (∀ w2 : World, (∀ it ∈ its, it.ok w2) → RSgt w2 [.int .i64 0, .slice none 0 0, .slice none 0 0, .int .i64 0, .int .i64 100, .int .i64 3, .slice (some ⟨bc, 0, none⟩) 2 2, .slice (some ⟨bf, 0, none⟩) 3 3, .int .i64 (-500), .int .i64 4000, .int .i64 800, .int .i64 1] exS) ∧ St w0 w' [packI its]) := by
 refine enter Tryz.func52 rfl Tryz.ntmps52 rfl ?_
 have hS := St.start w0
 refine seq <| region ?_
 refine salloc hS Tryz.zeroValue29 rfl ?_; clear hS; intro b0 w hS
 refine nil <| cwQ <| seq <| region <| sv (yBuild Tryz.zeroValue57 rfl pl57 (.cons rfl rfl (.cons rfl rfl (.cons rfl rfl (.cons rfl rfl .nil)))) rfl) <| sv (yBuild Tryz.zeroValue57 rfl pl57 (.cons rfl rfl (.cons rfl rfl (.cons rfl rfl .nil))) rfl) ?_
 refine sbslice hS Tryz.underlying26 Tryz.sizeOf57 rfl Tryz.zeroValue57 rfl (.cons rfl rfl (.cons rfl rfl .nil)) rfl ?_; clear hS; intro b3 w hS
 refine sbslice hS Tryz.underlying39 Tryz.sizeOf3 rfl Tryz.zeroValue3 rfl (.cons rfl rfl (.cons rfl rfl (.cons rfl rfl .nil))) rfl ?_; clear hS; intro b4 w hS
 refine sbslice hS Tryz.underlying39 Tryz.sizeOf3 rfl Tryz.zeroValue3 rfl (.cons rfl rfl (.cons rfl rfl (.cons rfl rfl .nil))) rfl ?_; clear hS; intro b5 w hS
 refine sbslice hS Tryz.underlying59 Tryz.sizeOf39 rfl Tryz.zeroValue39 rfl (.cons rfl rfl (.cons rfl rfl .nil)) rfl ?_; clear hS; intro b6 w hS
 refine sv (yBuild Tryz.zeroValue61 rfl pl61 (.cons rfl rfl (.cons rfl rfl (.cons rfl rfl .nil))) rfl) ?_
 refine sbslice hS Tryz.underlying39 Tryz.sizeOf3 rfl Tryz.zeroValue3 rfl (.cons rfl rfl (.cons rfl rfl .nil)) rfl ?_; clear hS; intro b8 w hS
 refine sbslice hS Tryz.underlying59 Tryz.sizeOf39 rfl Tryz.zeroValue39 rfl (.cons rfl rfl .nil) rfl ?_; clear hS; intro b9 w hS
 refine sv (yBuild Tryz.zeroValue61 rfl pl61 (.cons rfl rfl (.cons rfl rfl (.cons rfl rfl (.cons rfl rfl .nil)))) rfl) ?_
 refine sbslice hS Tryz.underlying39 Tryz.sizeOf3 rfl Tryz.zeroValue3 rfl (.cons rfl rfl (.cons rfl rfl (.cons rfl rfl .nil))) rfl ?_; clear hS; intro b11 w hS
 refine sbslice hS Tryz.underlying59 Tryz.sizeOf39 rfl Tryz.zeroValue39 rfl (.cons rfl rfl .nil) rfl ?_; clear hS; intro b12 w hS
 refine sv (yBuild Tryz.zeroValue61 rfl pl61 (.cons rfl rfl (.cons rfl rfl (.cons rfl rfl .nil))) rfl) ?_
 refine sbslice hS Tryz.underlying27 Tryz.sizeOf61 rfl Tryz.zeroValue61 rfl (.cons rfl rfl (.cons rfl rfl (.cons rfl rfl .nil))) rfl ?_; clear hS; intro b14 w hS
 refine sv (yBuild (r := [.int .i64 0, .slice none 0 0, .slice none 0 0, .int .i64 0, .int .i64 100, .int .i64 3, .slice (some ⟨b3, 0, none⟩) 2 2, .slice (some ⟨b14, 0, none⟩) 3 3, .int .i64 (-500), .int .i64 4000, .int .i64 800, .int .i64 1]) Tryz.zeroValue29 rfl pl29 (.cons rfl rfl (.cons rfl rfl (.cons rfl rfl (.cons rfl rfl (.cons rfl rfl (.cons rfl rfl (.cons rfl rfl (.cons rfl rfl .nil)))))))) (by kernel_rfl)) ?_
 refine sst hS rfl rfl Tryz.sizeOf29 rfl rfl rfl rfl ?_; clear hS; intro w hS
 refine nil <| cwQ <| wp_ret <| retQ (resV1 rfl (rc rfl Tryz.isAgg29 Tryz.sizeOf29 (hS.at b0) rfl rfl)) ?_
 refine ⟨b3, b14, _, rfl, fun w2 hi => ?_, hS.packAll⟩
 have hc := (show Sl w2 4 RCtr (.slice (some ⟨b3, 0, none⟩) 2 2) ([exC1, exC2] : List Ctr) from sl_of_blk (okB hi b3) (css := [[.string ⟨#[109, 101, 116]⟩, .int .i64 2, .int .i64 100, .int .i64 50], [.string ⟨#[111, 99, 101, 97, 110]⟩, .int .i64 5, .int .i64 200, .int .i64 0]]) (l := ([exC1, exC2] : List Ctr)) rfl ⟨rfl, ⟨rfl, by decide, by decide, by decide, by decide⟩, rfl, ⟨rfl, by decide, by decide, by decide, by decide⟩, trivial⟩ (by decide) rfl)
 have hf := (show Sl w2 4 RFct (.slice (some ⟨b14, 0, none⟩) 3 3) ([exF1, exF2, exF3] : List Fct) from sl_of_blk (okB hi b14) (css := [[.int .i64 0, .int .i64 88, .int .i64 100, .slice (some ⟨b6, 0, none⟩) 2 2], [.int .i64 1, .int .i64 90, .int .i64 101, .slice (some ⟨b9, 0, none⟩) 1 1], [.int .i64 0, .int .i64 94, .int .i64 100, .slice (some ⟨b12, 0, none⟩) 1 1]]) (l := ([exF1, exF2, exF3] : List Fct)) rfl ⟨rfl, ⟨_, rfl, by decide, by decide, by decide, (show Sl w2 1 RRow (.slice (some ⟨b6, 0, none⟩) 2 2) ([[1000, 1500, 2000], [500, 700, 900]] : List (List Int)) from sl_of_blk (okB hi b6) (css := [[.slice (some ⟨b4, 0, none⟩) 3 3], [.slice (some ⟨b5, 0, none⟩) 3 3]]) (l := ([[1000, 1500, 2000], [500, 700, 900]] : List (List Int))) rfl ⟨rfl, ⟨_, rfl, (ints_sl (l := [1000, 1500, 2000]) (okB hi b4) (by decide) (by decide))⟩, rfl, ⟨_, rfl, (ints_sl (l := [500, 700, 900]) (okB hi b5) (by decide) (by decide))⟩, trivial⟩ (by decide) rfl)⟩, rfl, ⟨_, rfl, by decide, by decide, by decide, (show Sl w2 1 RRow (.slice (some ⟨b9, 0, none⟩) 1 1) ([[2500, 2600]] : List (List Int)) from sl_of_blk (okB hi b9) (css := [[.slice (some ⟨b8, 0, none⟩) 2 2]]) (l := ([[2500, 2600]] : List (List Int))) rfl ⟨rfl, ⟨_, rfl, (ints_sl (l := [2500, 2600]) (okB hi b8) (by decide) (by decide))⟩, trivial⟩ (by decide) rfl)⟩, rfl, ⟨_, rfl, by decide, by decide, by decide, (show Sl w2 1 RRow (.slice (some ⟨b12, 0, none⟩) 1 1) ([[1200, 1800, 2600]] : List (List Int)) from sl_of_blk (okB hi b12) (css := [[.slice (some ⟨b11, 0, none⟩) 3 3]]) (l := ([[1200, 1800, 2600]] : List (List Int))) rfl ⟨rfl, ⟨_, rfl, (ints_sl (l := [1200, 1800, 2600]) (okB hi b11) (by decide) (by decide))⟩, trivial⟩ (by decide) rfl)⟩, trivial⟩ (by decide) rfl)
 exact exs_rs hc hf
end Go.Proofs.YtgidbailiababaaGreatDoor

/- part Sy23 -/
namespace Go.Proofs.YtgidbailiababaaGreatDoor
open Go Bx
theorem k_Right {bc bf : Nat} {w0 : World} (h : RSgt w0 [.int .i64 0, .slice none 0 0, .slice none 0 0, .int .i64 0, .int .i64 100, .int .i64 3, .slice (some ⟨bc, 0, none⟩) 2 2, .slice (some ⟨bf, 0, none⟩) 3 3, .int .i64 (-500), .int .i64 4000, .int .i64 800, .int .i64 1] exS) (hg : Glb w0) {vv : Value} (hsv : Sl w0 1 RInt vv [1000, 1500, 2000]) : CE Tryz.prog 30 #[.agg [.int .i64 0, .slice none 0 0, .slice none 0 0, .int .i64 0, .int .i64 100, .int .i64 3, .slice (some ⟨bc, 0, none⟩) 2 2, .slice (some ⟨bf, 0, none⟩) 3 3, .int .i64 (-500), .int .i64 4000, .int .i64 800, .int .i64 1].toArray, .int .i64 95, .agg [.int .i64 100, vv].toArray] w0 (fun u w' => ∃ g o cv its, u = .tuple #[.slice (some ⟨g, o, none⟩) 2 cv, .int .i64 0] ∧ (∀ w2 : World, (∀ it ∈ its, it.ok w2) → Cells w2 g (o + 0 * 1) [.bool true] ∧ Cells w2 g (o + 1 * 1) [.bool false]) ∧ St w0 w' [packI its]) := by
 have h1 := c_Right (t := exS) (s := kSr) (now := 95) h hg ⟨by decide, by decide⟩ ⟨by decide, by decide⟩ hsv
 rw [exs_rig] at h1
 exact Calls.mono h1 (fun e w2 he => by
  obtain ⟨u, rfl, v, its, rfl, hs, hM⟩ := he
  obtain ⟨av, cv, rfl, -⟩ := id (hs w2 (fun it hi => hM.ok (packI its) (by simp) it hi))
  obtain ⟨g, o, c0, rfl, -⟩ := sl_at (i := 0) (hs w2 (fun it hi => hM.ok (packI its) (by simp) it hi)) rfl
  exact ⟨_, rfl, g, o, cv, its, rfl, fun w3 h3 => by
   obtain ⟨b1, o1, c1, e1, -, hc1, hR1, -⟩ := sl_at (i := 0) (hs w3 h3) rfl
   obtain ⟨b2, o2, c2, e2, -, hc2, hR2, -⟩ := sl_at (i := 1) (hs w3 h3) rfl
   cases e1
   cases e2
   obtain rfl := hR1
   obtain rfl := hR2
   exact ⟨hc1, hc2⟩, hM⟩)
theorem k_Is5 {bc bf : Nat} {w0 : World} (h : RSgt w0 [.int .i64 0, .slice none 0 0, .slice none 0 0, .int .i64 0, .int .i64 100, .int .i64 3, .slice (some ⟨bc, 0, none⟩) 2 2, .slice (some ⟨bf, 0, none⟩) 3 3, .int .i64 (-500), .int .i64 4000, .int .i64 800, .int .i64 1] exS) (hg : Glb w0) {vv : Value} (hsv : Sl w0 1 RInt vv [1000, 1500, 2000]) : CE Tryz.prog 26 #[.agg [.int .i64 0, .slice none 0 0, .slice none 0 0, .int .i64 0, .int .i64 100, .int .i64 3, .slice (some ⟨bc, 0, none⟩) 2 2, .slice (some ⟨bf, 0, none⟩) 3 3, .int .i64 (-500), .int .i64 4000, .int .i64 800, .int .i64 1].toArray, .int .i64 95, .agg [.int .i64 100, vv].toArray] w0 (fun u w' => u = .tuple #[.bool true, .int .i64 0] ∧ Ext w0 w') := by
 have h1 := c_Is (t := exS) (s := kSr) (now := 95) h hg ⟨by decide, by decide⟩ ⟨by decide, by decide⟩ hsv
 rw [exs_is5] at h1
 exact h1
theorem k_Is6 {bc bf : Nat} {w0 : World} (h : RSgt w0 [.int .i64 0, .slice none 0 0, .slice none 0 0, .int .i64 0, .int .i64 100, .int .i64 3, .slice (some ⟨bc, 0, none⟩) 2 2, .slice (some ⟨bf, 0, none⟩) 3 3, .int .i64 (-500), .int .i64 4000, .int .i64 800, .int .i64 1] exS) (hg : Glb w0) {vv : Value} (hsv : Sl w0 1 RInt vv [1000, 1500, 2000]) : CE Tryz.prog 26 #[.agg [.int .i64 0, .slice none 0 0, .slice none 0 0, .int .i64 0, .int .i64 100, .int .i64 3, .slice (some ⟨bc, 0, none⟩) 2 2, .slice (some ⟨bf, 0, none⟩) 3 3, .int .i64 (-500), .int .i64 4000, .int .i64 800, .int .i64 1].toArray, .int .i64 96, .agg [.int .i64 100, vv].toArray] w0 (fun u w' => u = .tuple #[.bool false, .int .i64 0] ∧ Ext w0 w') := by
 have h1 := c_Is (t := exS) (s := kSr) (now := 96) h hg ⟨by decide, by decide⟩ ⟨by decide, by decide⟩ hsv
 rw [exs_is6] at h1
 exact h1
theorem k_Sus {bc bf : Nat} {w0 : World} (h : RSgt w0 [.int .i64 0, .slice none 0 0, .slice none 0 0, .int .i64 0, .int .i64 100, .int .i64 3, .slice (some ⟨bc, 0, none⟩) 2 2, .slice (some ⟨bf, 0, none⟩) 3 3, .int .i64 (-500), .int .i64 2000, .int .i64 800, .int .i64 1] exM) (hg : Glb w0) : CE Tryz.prog 35 #[.agg [.int .i64 0, .slice none 0 0, .slice none 0 0, .int .i64 0, .int .i64 100, .int .i64 3, .slice (some ⟨bc, 0, none⟩) 2 2, .slice (some ⟨bf, 0, none⟩) 3 3, .int .i64 (-500), .int .i64 2000, .int .i64 800, .int .i64 1].toArray, .int .i64 95] w0 (fun u w' => ∃ v its, u = .tuple #[v, .int .i64 0] ∧ (∀ w2 : World, (∀ it ∈ its, it.ok w2) → Sl w2 1 RInt v [1]) ∧ St w0 w' [packI its]) := by
 have h1 := c_Suspects (t := exM) (now := 95) h hg ⟨by decide, by decide⟩
 rw [exs_sus] at h1
 exact h1
theorem k_Envq {bc bf : Nat} {w0 : World} (h : RSgt w0 [.int .i64 0, .slice none 0 0, .slice none 0 0, .int .i64 0, .int .i64 100, .int .i64 3, .slice (some ⟨bc, 0, none⟩) 2 2, .slice (some ⟨bf, 0, none⟩) 3 3, .int .i64 (-500), .int .i64 4000, .int .i64 800, .int .i64 2] exQ) (hg : Glb w0) : CE Tryz.prog 48 #[.agg [.int .i64 0, .slice none 0 0, .slice none 0 0, .int .i64 0, .int .i64 100, .int .i64 3, .slice (some ⟨bc, 0, none⟩) 2 2, .slice (some ⟨bf, 0, none⟩) 3 3, .int .i64 (-500), .int .i64 4000, .int .i64 800, .int .i64 2].toArray, .int .i64 96] w0 (fun u w' => ∃ lv hv its, u = .tuple #[.agg #[.int .i64 0, lv], .agg #[.int .i64 0, hv], .int .i64 9] ∧ (∀ w2 : World, (∀ it ∈ its, it.ok w2) → Sl w2 1 RInt lv [] ∧ Sl w2 1 RInt hv []) ∧ St w0 w' [packI its]) := by
 have h1 := c_Envelope (t := exQ) (now := 96) h hg ⟨by decide, by decide⟩
 rw [exs_envq] at h1
 exact h1
set_option maxRecDepth 4000 in
set_option maxHeartbeats 4000000 in
theorem w_SurgeKnown {w0 : World} (hg : Glb w0) : CV Tryz.prog 16 #[] w0 (.bool true) := by
 refine enter Tryz.func16 rfl Tryz.ntmps16 rfl ?_
 have hS := St.start w0
 refine seq <| region <| sv (yAsg rfl) <| nil <| cwQ <| seq <| region ?_
 refine scall Tryz.call52 .nil c_ExampleP ?_
 rintro _ w ⟨bc, bf, is0, rfl, hT0, hM⟩; replace hS := hS.call1 hM; clear hM
 refine salloc hS Tryz.zeroValue29 rfl ?_; clear hS; intro b1 w hS
 refine sst hS rfl rfl Tryz.sizeOf29 rfl rfl rfl rfl ?_; clear hS; intro w hS
 refine nil <| cwQ <| seq <| region ?_
 replace hS : StX [] w0 w [blk b1 [.int .i64 0, .slice none 0 0, .slice none 0 0, .int .i64 0, .int .i64 100, .int .i64 3, .slice (some ⟨bc, 0, none⟩) 2 2, .slice (some ⟨bf, 0, none⟩) 3 3, .int .i64 (-500), .int .i64 4000, .int .i64 800, .int .i64 1] 29, packI is0] := hS
 refine sbslice hS Tryz.underlying39 Tryz.sizeOf3 rfl Tryz.zeroValue3 rfl (.cons rfl rfl (.cons rfl rfl (.cons rfl rfl (.cons rfl rfl .nil)))) rfl ?_; clear hS; intro b26 w hS
 refine sbslice hS Tryz.underlying39 Tryz.sizeOf3 rfl Tryz.zeroValue3 rfl (.cons rfl rfl (.cons rfl rfl .nil)) rfl ?_; clear hS; intro b27 w hS
 refine sbslice hS Tryz.underlying39 Tryz.sizeOf3 rfl Tryz.zeroValue3 rfl (.cons rfl rfl (.cons rfl rfl .nil)) rfl ?_; clear hS; intro b28 w hS
 refine sbslice hS Tryz.underlying39 Tryz.sizeOf3 rfl Tryz.zeroValue3 rfl (.cons rfl rfl (.cons rfl rfl .nil)) rfl ?_; clear hS; intro b29 w hS
 refine sbslice hS Tryz.underlying39 Tryz.sizeOf3 rfl Tryz.zeroValue3 rfl (.cons rfl rfl (.cons rfl rfl .nil)) rfl ?_; clear hS; intro b30 w hS
 refine sbslice hS Tryz.underlying59 Tryz.sizeOf39 rfl Tryz.zeroValue39 rfl (.cons rfl rfl (.cons rfl rfl (.cons rfl rfl (.cons rfl rfl .nil)))) rfl ?_; clear hS; intro b31 w hS
 refine sv (yAsg rfl) <| sv (yAsg rfl) <| nil <| cwQ <| seq <| seq <| region <| sv (yAsg rfl) <| nil ?_
 refine cwQ <| block <| loop (fun f w zz => ∃ (k : Nat), f 1 = .pointer (some ⟨b1, 0, none⟩) ∧ f 2 = .slice (some ⟨b26, 0, none⟩) 4 4 ∧ f 3 = .slice (some ⟨b31, 0, none⟩) 4 4 ∧ f 4 = .int .i64 (k : Int) ∧ StX [] w0 w [blk b31 [.slice (some ⟨b27, 0, none⟩) 2 2, .slice (some ⟨b28, 0, none⟩) 2 2, .slice (some ⟨b29, 0, none⟩) 2 2, .slice (some ⟨b30, 0, none⟩) 2 2] 39, blk b30 [.int .i64 2, .int .i64 1] 3, blk b29 [.int .i64 0, .int .i64 1] 3, blk b28 [.int .i64 0, .int .i64 (-1)] 3, blk b27 [.int .i64 (-1), .int .i64 (-1)] 3, blk b26 [.int .i64 89, .int .i64 90, .int .i64 95, .int .i64 96] 3, blk b1 [.int .i64 0, .slice none 0 0, .slice none 0 0, .int .i64 0, .int .i64 100, .int .i64 3, .slice (some ⟨bc, 0, none⟩) 2 2, .slice (some ⟨bf, 0, none⟩) 3 3, .int .i64 (-500), .int .i64 4000, .int .i64 800, .int .i64 1] 29, packI is0] ∧ (k ≤ 4) ∧ zz = 4 - k) _ ⟨_, rfl, 0, rfl, rfl, rfl, rfl, hS, (by decide), rfl⟩ ?_
 clear hS
 rintro f w _ ⟨k, h1, h2, h3, h4, hS, hk, rfl⟩
 refine seq <| seq <| region <| sv (yMove h4) <| sv (yLss rfl rfl) <| nil <| cwQ ?_
 refine cond rfl (fun c33 => ?_) (fun c33 => ?_)
 ·
  simp only [BS, ne_eq] at c33
  have hk4 : k < 4 := by omega
  have hg26 : kTk[k]? = some (kTk.getD k 0) := by simp [List.getD, show k < kTk.length from hk4]
  have hg31 : kWt[k]? = some (kWt.getD k []) := by simp [List.getD, show k < kWt.length from hk4]
  have hs26 : ∀ w, StX [] w0 w [blk b31 [.slice (some ⟨b27, 0, none⟩) 2 2, .slice (some ⟨b28, 0, none⟩) 2 2, .slice (some ⟨b29, 0, none⟩) 2 2, .slice (some ⟨b30, 0, none⟩) 2 2] 39, blk b30 [.int .i64 2, .int .i64 1] 3, blk b29 [.int .i64 0, .int .i64 1] 3, blk b28 [.int .i64 0, .int .i64 (-1)] 3, blk b27 [.int .i64 (-1), .int .i64 (-1)] 3, blk b26 [.int .i64 89, .int .i64 90, .int .i64 95, .int .i64 96] 3, blk b1 [.int .i64 0, .slice none 0 0, .slice none 0 0, .int .i64 0, .int .i64 100, .int .i64 3, .slice (some ⟨bc, 0, none⟩) 2 2, .slice (some ⟨bf, 0, none⟩) 3 3, .int .i64 (-500), .int .i64 4000, .int .i64 800, .int .i64 1] 29, packI is0] → Sl w 1 RInt (.slice (some ⟨b26, 0, none⟩) 4 4) kTk := fun w hS => (ints_sl (l := kTk) (hS.at b26) (by decide) (by decide))
  have hs31 : ∀ w, StX [] w0 w [blk b31 [.slice (some ⟨b27, 0, none⟩) 2 2, .slice (some ⟨b28, 0, none⟩) 2 2, .slice (some ⟨b29, 0, none⟩) 2 2, .slice (some ⟨b30, 0, none⟩) 2 2] 39, blk b30 [.int .i64 2, .int .i64 1] 3, blk b29 [.int .i64 0, .int .i64 1] 3, blk b28 [.int .i64 0, .int .i64 (-1)] 3, blk b27 [.int .i64 (-1), .int .i64 (-1)] 3, blk b26 [.int .i64 89, .int .i64 90, .int .i64 95, .int .i64 96] 3, blk b1 [.int .i64 0, .slice none 0 0, .slice none 0 0, .int .i64 0, .int .i64 100, .int .i64 3, .slice (some ⟨bc, 0, none⟩) 2 2, .slice (some ⟨bf, 0, none⟩) 3 3, .int .i64 (-500), .int .i64 4000, .int .i64 800, .int .i64 1] 29, packI is0] → Sl w 1 RRow (.slice (some ⟨b31, 0, none⟩) 4 4) kWt := fun w hS => (show Sl w 1 RRow (.slice (some ⟨b31, 0, none⟩) 4 4) ([[-1, -1], [0, -1], [0, 1], [2, 1]] : List (List Int)) from sl_of_blk (hS.at b31) (css := [[.slice (some ⟨b27, 0, none⟩) 2 2], [.slice (some ⟨b28, 0, none⟩) 2 2], [.slice (some ⟨b29, 0, none⟩) 2 2], [.slice (some ⟨b30, 0, none⟩) 2 2]]) (l := ([[-1, -1], [0, -1], [0, 1], [2, 1]] : List (List Int))) rfl ⟨rfl, ⟨_, rfl, (ints_sl (l := [-1, -1]) (hS.at b27) (by decide) (by decide))⟩, rfl, ⟨_, rfl, (ints_sl (l := [0, -1]) (hS.at b28) (by decide) (by decide))⟩, rfl, ⟨_, rfl, (ints_sl (l := [0, 1]) (hS.at b29) (by decide) (by decide))⟩, rfl, ⟨_, rfl, (ints_sl (l := [2, 1]) (hS.at b30) (by decide) (by decide))⟩, trivial⟩ (by decide) rfl)
  refine skip <| cwQ <| seq <| block <| seq <| region_mix (fun w => StX [] w0 w [blk b31 [.slice (some ⟨b27, 0, none⟩) 2 2, .slice (some ⟨b28, 0, none⟩) 2 2, .slice (some ⟨b29, 0, none⟩) 2 2, .slice (some ⟨b30, 0, none⟩) 2 2] 39, blk b30 [.int .i64 2, .int .i64 1] 3, blk b29 [.int .i64 0, .int .i64 1] 3, blk b28 [.int .i64 0, .int .i64 (-1)] 3, blk b27 [.int .i64 (-1), .int .i64 (-1)] 3, blk b26 [.int .i64 89, .int .i64 90, .int .i64 95, .int .i64 96] 3, blk b1 [.int .i64 0, .slice none 0 0, .slice none 0 0, .int .i64 0, .int .i64 100, .int .i64 3, .slice (some ⟨bc, 0, none⟩) 2 2, .slice (some ⟨bf, 0, none⟩) 3 3, .int .i64 (-500), .int .i64 4000, .int .i64 800, .int .i64 1] 29, packI is0]) 11 mixed hS ?_
  clear hS; intro w hS
  refine f_step 0 (by kernel_rfl) rfl (fun c a a' w h => by obtain ⟨_, v, hv, _⟩ := h; cases hv) (by first | exact hS | exact hS.sub (.cons _ lrQ)) (fun w hS => (yLdBA h1 Tryz.isAgg29 Tryz.sizeOf29 (hS.at _) rfl rfl)) ?_
  refine f_step 1 (by kernel_rfl) rfl (fun c a a' w h => by obtain ⟨_, v, hv, _⟩ := h; cases hv) (by first | exact hS | exact hS.sub (.cons _ lrQ)) (fun w hS => (yMove h2)) ?_
  refine f_step 2 (by kernel_rfl) rfl (fun c a a' w h => by obtain ⟨_, v, hv, _⟩ := h; cases hv) (by first | exact hS | exact hS.sub (.cons _ lrQ)) (fun w hS => (yMove h4)) ?_
  refine f_step 3 (by kernel_rfl) rfl (fun c a a' w h => by obtain ⟨_, v, hv, _⟩ := h; cases hv) (by first | exact hS | exact hS.sub (.cons _ lrQ)) (fun w hS => (yIxa rfl rfl rfl Tryz.runUnderlying39 Tryz.sizeOf3 (by omega) (by omega))) ?_
  refine f_step 4 (by kernel_rfl) rfl (fun c a a' w h => by obtain ⟨_, v, hv, _⟩ := h; cases hv) (by first | exact hS | exact hS.sub (.cons _ lrQ)) (fun w hS => (yLd rfl Tryz.isAgg3 (sl_cell (hs26 w hS) hg26))) ?_
  refine awQ <| a1Q 5 (by kernel_rfl) rfl ?_
  refine scall Tryz.call27 (.cons rfl (.cons rfl .nil)) (c_Current (t := exS) (now := kTk.getD k 0) (hT0 w (fun it hi => hS.ok (packI is0) (by repeat first | (with_reducible exact List.mem_cons_self ..) | apply List.mem_cons_of_mem) it hi)) (hg.ext hS.ext) (kTk_i64 k hk4)) ?_
  rw [exs_cur k hk4]
  rintro _ w ⟨cv1, i1, rfl, hi1, hM⟩; replace hS := hS.call1 hM; clear hM
  refine nil ?_
  refine ⟨fun _ => (by first | exact hS | exact hS.sub (.cons _ lrQ)), ?_⟩
  refine awQ ?_
  refine f_step 6 (by kernel_rfl) rfl (fun c a a' w h => by obtain ⟨_, v, hv, _⟩ := h; cases hv) (by first | exact hS | exact hS.sub (.cons _ lrQ)) (fun w hS => (yMove rfl)) ?_
  refine f_step 7 (by kernel_rfl) rfl (fun c a a' w h => by obtain ⟨_, v, hv, _⟩ := h; cases hv) (by first | exact hS | exact hS.sub (.cons _ lrQ)) (fun w hS => (yExt rfl rfl)) ?_
  refine f_step 8 (by kernel_rfl) rfl (fun c a a' w h => by obtain ⟨_, v, hv, _⟩ := h; cases hv) (by first | exact hS | exact hS.sub (.cons _ lrQ)) (fun w hS => (yExt rfl rfl)) ?_
  refine f_step 9 (by kernel_rfl) rfl (fun c a a' w h => by obtain ⟨_, v, hv, _⟩ := h; cases hv) (by first | exact hS | exact hS.sub (.cons _ lrQ)) (fun w hS => (yAsg rfl)) ?_
  refine f_step 10 (by kernel_rfl) rfl (fun c a a' w h => by obtain ⟨_, v, hv, _⟩ := h; cases hv) (by first | exact hS | exact hS.sub (.cons _ lrQ)) (fun w hS => (yAsg rfl)) ?_
  refine a_end (by kernel_rfl) <| cwQ <| seq <| region ?_
  obtain ⟨b7, o7, c7, e7, -, hc7, ⟨v7, rfl, hv7⟩, -⟩ := sl_at (hs31 w (hS.sub (.cons _ lrQ))) hg31
  cases e7
  refine sv (yMove rfl) <| sv (yNeq rfl rfl) <| sv (yMove rfl) <| ungo rfl rfl rfl <| sv (yMove rfl) <| ungo rfl rfl rfl <| sv (yMove h3) <| ungo rfl rfl rfl <| sv (yMove h4) ?_
  refine ungo rfl rfl rfl <| sv (yIxa rfl rfl rfl Tryz.runUnderlying59 Tryz.sizeOf39 (by omega) (by omega)) <| ungo rfl rfl rfl <| sv (yLd rfl Tryz.isAgg39 hc7.one) <| ungo rfl rfl rfl ?_
  refine scall Tryz.call22 (.cons rfl (.cons rfl .nil)) (c_Ints (hi1 w (fun it hi => hS.ok (packI i1) (by repeat first | (with_reducible exact List.mem_cons_self ..) | apply List.mem_cons_of_mem) it hi)) hv7) ?_
  rintro _ w ⟨rfl, hE⟩; replace hS := hS.step hE; clear hE
  refine ungo rfl rfl rfl <| sv (yNot rfl) <| sv (yOr rfl rfl (fun hB => rfl)) <| nil <| cwQ ?_
  refine cond rfl (fun c55 => ?_) (fun c55 => ?_)
  ·
   exfalso
   simp at c55
  ·
   refine skip <| cwQ <| region <| sv (yMove h4) <| sv (yAdd rfl rfl ⟨by omega, by omega⟩) <| sv (yAsg rfl) <| nil ?_
   exact ⟨_, _, rfl, ⟨k + 1, h1, h2, h3, rfl, (hS.sub (.cons _ lrQ)), (by omega), rfl⟩, by omega⟩
 ·
  simp only [BS, ne_eq] at c33
  clear hk
  refine exit <| cwQ <| seq <| region ?_
  refine sbslice hS Tryz.underlying39 Tryz.sizeOf3 rfl Tryz.zeroValue3 rfl (.cons rfl rfl (.cons rfl rfl (.cons rfl rfl (.cons rfl rfl .nil)))) rfl ?_; clear hS; intro b56 w hS
  refine sbslice hS Tryz.underlying39 Tryz.sizeOf3 rfl Tryz.zeroValue3 rfl (.cons rfl rfl (.cons rfl rfl (.cons rfl rfl (.cons rfl rfl .nil)))) rfl ?_; clear hS; intro b57 w hS
  refine sv (yAsg rfl) <| sv (yAsg rfl) <| nil <| cwQ <| seq <| seq <| region <| sv (yAsg rfl) <| nil ?_
  refine cwQ <| block <| loop (fun f w zz => ∃ (k : Nat), f 1 = .pointer (some ⟨b1, 0, none⟩) ∧ f 2 = .slice (some ⟨b56, 0, none⟩) 4 4 ∧ f 7 = .slice (some ⟨b57, 0, none⟩) 4 4 ∧ f 8 = .int .i64 (k : Int) ∧ StX [] w0 w [blk b57 [.int .i64 100, .int .i64 150, .int .i64 200, .int .i64 250] 3, blk b56 [.int .i64 88, .int .i64 89, .int .i64 100, .int .i64 101] 3, blk b31 [.slice (some ⟨b27, 0, none⟩) 2 2, .slice (some ⟨b28, 0, none⟩) 2 2, .slice (some ⟨b29, 0, none⟩) 2 2, .slice (some ⟨b30, 0, none⟩) 2 2] 39, blk b30 [.int .i64 2, .int .i64 1] 3, blk b29 [.int .i64 0, .int .i64 1] 3, blk b28 [.int .i64 0, .int .i64 (-1)] 3, blk b27 [.int .i64 (-1), .int .i64 (-1)] 3, blk b26 [.int .i64 89, .int .i64 90, .int .i64 95, .int .i64 96] 3, blk b1 [.int .i64 0, .slice none 0 0, .slice none 0 0, .int .i64 0, .int .i64 100, .int .i64 3, .slice (some ⟨bc, 0, none⟩) 2 2, .slice (some ⟨bf, 0, none⟩) 3 3, .int .i64 (-500), .int .i64 4000, .int .i64 800, .int .i64 1] 29, packI is0] ∧ (k ≤ 4) ∧ zz = 4 - k) _ ⟨_, rfl, 0, h1, rfl, rfl, rfl, hS, (by decide), rfl⟩ ?_
  clear hS
  rintro f w _ ⟨k, h1, h2, h7, h8, hS, hk, rfl⟩
  refine seq <| seq <| region <| sv (yMove h8) <| sv (yLss rfl rfl) <| nil <| cwQ ?_
  refine cond rfl (fun c59 => ?_) (fun c59 => ?_)
  ·
   simp only [BS, ne_eq] at c59
   have hk4 : k < 4 := by omega
   have hg56 : kT2[k]? = some (kT2.getD k 0) := by simp [List.getD, show k < kT2.length from hk4]
   have hg57 : kW2[k]? = some (kW2.getD k 0) := by simp [List.getD, show k < kW2.length from hk4]
   have hs56 : ∀ w, StX [] w0 w [blk b57 [.int .i64 100, .int .i64 150, .int .i64 200, .int .i64 250] 3, blk b56 [.int .i64 88, .int .i64 89, .int .i64 100, .int .i64 101] 3, blk b31 [.slice (some ⟨b27, 0, none⟩) 2 2, .slice (some ⟨b28, 0, none⟩) 2 2, .slice (some ⟨b29, 0, none⟩) 2 2, .slice (some ⟨b30, 0, none⟩) 2 2] 39, blk b30 [.int .i64 2, .int .i64 1] 3, blk b29 [.int .i64 0, .int .i64 1] 3, blk b28 [.int .i64 0, .int .i64 (-1)] 3, blk b27 [.int .i64 (-1), .int .i64 (-1)] 3, blk b26 [.int .i64 89, .int .i64 90, .int .i64 95, .int .i64 96] 3, blk b1 [.int .i64 0, .slice none 0 0, .slice none 0 0, .int .i64 0, .int .i64 100, .int .i64 3, .slice (some ⟨bc, 0, none⟩) 2 2, .slice (some ⟨bf, 0, none⟩) 3 3, .int .i64 (-500), .int .i64 4000, .int .i64 800, .int .i64 1] 29, packI is0] → Sl w 1 RInt (.slice (some ⟨b56, 0, none⟩) 4 4) kT2 := fun w hS => (ints_sl (l := kT2) (hS.at b56) (by decide) (by decide))
   have hs57 : ∀ w, StX [] w0 w [blk b57 [.int .i64 100, .int .i64 150, .int .i64 200, .int .i64 250] 3, blk b56 [.int .i64 88, .int .i64 89, .int .i64 100, .int .i64 101] 3, blk b31 [.slice (some ⟨b27, 0, none⟩) 2 2, .slice (some ⟨b28, 0, none⟩) 2 2, .slice (some ⟨b29, 0, none⟩) 2 2, .slice (some ⟨b30, 0, none⟩) 2 2] 39, blk b30 [.int .i64 2, .int .i64 1] 3, blk b29 [.int .i64 0, .int .i64 1] 3, blk b28 [.int .i64 0, .int .i64 (-1)] 3, blk b27 [.int .i64 (-1), .int .i64 (-1)] 3, blk b26 [.int .i64 89, .int .i64 90, .int .i64 95, .int .i64 96] 3, blk b1 [.int .i64 0, .slice none 0 0, .slice none 0 0, .int .i64 0, .int .i64 100, .int .i64 3, .slice (some ⟨bc, 0, none⟩) 2 2, .slice (some ⟨bf, 0, none⟩) 3 3, .int .i64 (-500), .int .i64 4000, .int .i64 800, .int .i64 1] 29, packI is0] → Sl w 1 RInt (.slice (some ⟨b57, 0, none⟩) 4 4) kW2 := fun w hS => (ints_sl (l := kW2) (hS.at b57) (by decide) (by decide))
   refine skip <| cwQ <| seq <| block <| seq <| region_mix (fun w => StX [] w0 w [blk b57 [.int .i64 100, .int .i64 150, .int .i64 200, .int .i64 250] 3, blk b56 [.int .i64 88, .int .i64 89, .int .i64 100, .int .i64 101] 3, blk b31 [.slice (some ⟨b27, 0, none⟩) 2 2, .slice (some ⟨b28, 0, none⟩) 2 2, .slice (some ⟨b29, 0, none⟩) 2 2, .slice (some ⟨b30, 0, none⟩) 2 2] 39, blk b30 [.int .i64 2, .int .i64 1] 3, blk b29 [.int .i64 0, .int .i64 1] 3, blk b28 [.int .i64 0, .int .i64 (-1)] 3, blk b27 [.int .i64 (-1), .int .i64 (-1)] 3, blk b26 [.int .i64 89, .int .i64 90, .int .i64 95, .int .i64 96] 3, blk b1 [.int .i64 0, .slice none 0 0, .slice none 0 0, .int .i64 0, .int .i64 100, .int .i64 3, .slice (some ⟨bc, 0, none⟩) 2 2, .slice (some ⟨bf, 0, none⟩) 3 3, .int .i64 (-500), .int .i64 4000, .int .i64 800, .int .i64 1] 29, packI is0]) 11 mixed hS ?_
   clear hS; intro w hS
   refine f_step 0 (by kernel_rfl) rfl (fun c a a' w h => by obtain ⟨_, v, hv, _⟩ := h; cases hv) hS (fun w hS => (yLdBA h1 Tryz.isAgg29 Tryz.sizeOf29 (hS.at _) rfl rfl)) ?_
   refine f_step 1 (by kernel_rfl) rfl (fun c a a' w h => by obtain ⟨_, v, hv, _⟩ := h; cases hv) hS (fun w hS => (yMove h2)) ?_
   refine f_step 2 (by kernel_rfl) rfl (fun c a a' w h => by obtain ⟨_, v, hv, _⟩ := h; cases hv) hS (fun w hS => (yMove h8)) ?_
   refine f_step 3 (by kernel_rfl) rfl (fun c a a' w h => by obtain ⟨_, v, hv, _⟩ := h; cases hv) hS (fun w hS => (yIxa rfl rfl rfl Tryz.runUnderlying39 Tryz.sizeOf3 (by omega) (by omega))) ?_
   refine f_step 4 (by kernel_rfl) rfl (fun c a a' w h => by obtain ⟨_, v, hv, _⟩ := h; cases hv) hS (fun w hS => (yLd rfl Tryz.isAgg3 (sl_cell (hs56 w hS) hg56))) ?_
   refine awQ <| a1Q 5 (by kernel_rfl) rfl ?_
   refine scall Tryz.call39 (.cons rfl (.cons rfl (.cons rfl .nil))) (c_Error (t := exS) (now := kT2.getD k 0) (fi := 0) (hT0 w (fun it hi => hS.ok (packI is0) (by repeat first | (with_reducible exact List.mem_cons_self ..) | apply List.mem_cons_of_mem) it hi)) (hg.ext hS.ext) (kT2_i64 k hk4) ⟨by decide, by decide⟩) ?_
   rw [exs_err k hk4]
   rintro _ w ⟨rfl, hE⟩; replace hS := hS.step hE; clear hE
   refine nil ?_
   refine ⟨fun _ => hS, ?_⟩
   refine awQ ?_
   refine f_step 6 (by kernel_rfl) rfl (fun c a a' w h => by obtain ⟨_, v, hv, _⟩ := h; cases hv) hS (fun w hS => (yMove rfl)) ?_
   refine f_step 7 (by kernel_rfl) rfl (fun c a a' w h => by obtain ⟨_, v, hv, _⟩ := h; cases hv) hS (fun w hS => (yExt rfl rfl)) ?_
   refine f_step 8 (by kernel_rfl) rfl (fun c a a' w h => by obtain ⟨_, v, hv, _⟩ := h; cases hv) hS (fun w hS => (yExt rfl rfl)) ?_
   refine f_step 9 (by kernel_rfl) rfl (fun c a a' w h => by obtain ⟨_, v, hv, _⟩ := h; cases hv) hS (fun w hS => (yAsg rfl)) ?_
   refine f_step 10 (by kernel_rfl) rfl (fun c a a' w h => by obtain ⟨_, v, hv, _⟩ := h; cases hv) hS (fun w hS => (yAsg rfl)) ?_
   refine a_end (by kernel_rfl) <| cwQ <| seq <| region <| sv (yMove rfl) <| sv (yNeq rfl rfl) <| sv (yMove rfl) <| ungo rfl rfl rfl <| sv (yMove rfl) ?_
   refine ungo rfl rfl rfl <| sv (yMove h7) <| ungo rfl rfl rfl <| sv (yMove h8) <| ungo rfl rfl rfl <| sv (yIxa rfl rfl rfl Tryz.runUnderlying39 Tryz.sizeOf3 (by omega) (by omega)) <| ungo rfl rfl rfl <| sv (yLd rfl Tryz.isAgg3 (sl_cell (hs57 w hS) hg57)) <| ungo rfl rfl rfl ?_
   refine sv (yNeq rfl rfl) <| sv (yOr rfl rfl (fun hB => rfl)) <| nil <| cwQ ?_
   refine cond rfl (fun c80 => ?_) (fun c80 => ?_)
   ·
    exfalso
    simp at c80
   ·
    refine skip <| cwQ <| region <| sv (yMove h8) <| sv (yAdd rfl rfl ⟨by omega, by omega⟩) <| sv (yAsg rfl) <| nil ?_
    exact ⟨_, _, rfl, ⟨k + 1, h1, h2, h7, rfl, hS, (by omega), rfl⟩, by omega⟩
  ·
   simp only [BS, ne_eq] at c59
   clear hk
   refine exit <| cwQ <| seq <| region <| sv (yLdBA h1 Tryz.isAgg29 Tryz.sizeOf29 (hS.at _) rfl rfl) ?_
   refine scall Tryz.call41 (.cons rfl (.cons rfl (.cons rfl .nil))) (c_Tube (t := exS) (fi := 1) (mi := 0) (hT0 w (fun it hi => hS.ok (packI is0) (by repeat first | (with_reducible exact List.mem_cons_self ..) | apply List.mem_cons_of_mem) it hi)) (hg.ext hS.ext) ⟨by decide, by decide⟩ ⟨by decide, by decide⟩) ?_
   rw [exs_tub2]
   rintro _ w ⟨tv, i3, rfl, hi3, hM⟩; replace hS := hS.call1 hM; clear hM
   refine sv (yMove rfl) <| sv (yExt rfl rfl) <| sv (yExt rfl rfl) <| sv (yAsg rfl) <| sv (yAsg rfl) <| nil <| cwQ <| seq <| region ?_
   refine sv (yLdBA h1 Tryz.isAgg29 Tryz.sizeOf29 (hS.at _) rfl rfl) ?_
   refine scall Tryz.call20 (.cons rfl (.cons rfl .nil)) (c_Boxes (t := exS) (now := 95) (hT0 w (fun it hi => hS.ok (packI is0) (by repeat first | (with_reducible exact List.mem_cons_self ..) | apply List.mem_cons_of_mem) it hi)) (hg.ext hS.ext) ⟨by decide, by decide⟩) ?_
   rw [boxR_1 exs_ask]
   rintro _ w ⟨bv, i4, rfl, hi4, hM⟩; replace hS := hS.call1 hM; clear hM
   refine sv (yMove rfl) <| sv (yExt rfl rfl) <| sv (yExt rfl rfl) <| sv (yAsg rfl) <| sv (yAsg rfl) <| nil <| cwQ <| seq <| region ?_
   refine sv (yLdBA h1 Tryz.isAgg29 Tryz.sizeOf29 (hS.at _) rfl rfl) ?_
   refine scall Tryz.call48 (.cons rfl (.cons rfl .nil)) (c_Envelope (t := exS) (now := 95) (hT0 w (fun it hi => hS.ok (packI is0) (by repeat first | (with_reducible exact List.mem_cons_self ..) | apply List.mem_cons_of_mem) it hi)) (hg.ext hS.ext) ⟨by decide, by decide⟩) ?_
   rw [exs_env]
   rintro _ w ⟨lv, hv, i5, rfl, hi5, hM⟩; replace hS := hS.call1 hM; clear hM
   obtain ⟨ael, cel, rfl, -⟩ := (hi5 w (fun it hi => hS.ok (packI i5) (by repeat first | (with_reducible exact List.mem_cons_self ..) | apply List.mem_cons_of_mem) it hi)).1
   obtain ⟨aeh, ceh, rfl, -⟩ := (hi5 w (fun it hi => hS.ok (packI i5) (by repeat first | (with_reducible exact List.mem_cons_self ..) | apply List.mem_cons_of_mem) it hi)).2
   refine sv (yMove rfl) <| sv (yExt rfl rfl) <| sv (yExt rfl rfl) <| sv (yExt rfl rfl) ?_
   refine salloc hS Tryz.zeroValue41 rfl ?_; clear hS; intro b15 w hS
   refine salloc hS Tryz.zeroValue41 rfl ?_; clear hS; intro b16 w hS
   refine sst hS rfl rfl Tryz.sizeOf41 rfl rfl rfl rfl ?_; clear hS; intro w hS
   refine sst hS rfl rfl Tryz.sizeOf41 rfl rfl rfl rfl ?_; clear hS; intro w hS
   refine sv (yAsg rfl) <| nil <| cwQ <| seq <| region <| sv (yLdBA h1 Tryz.isAgg29 Tryz.sizeOf29 (hS.at _) rfl rfl) ?_
   refine scall Tryz.call50 (.cons rfl (.cons rfl .nil)) (c_Peak (t := exS) (now := 95) (hT0 w (fun it hi => hS.ok (packI is0) (by repeat first | (with_reducible exact List.mem_cons_self ..) | apply List.mem_cons_of_mem) it hi)) (hg.ext hS.ext) ⟨by decide, by decide⟩) ?_
   rw [exs_peak]
   rintro _ w ⟨rfl, hE⟩; replace hS := hS.step hE; clear hE
   refine sv (yMove rfl) <| sv (yExt rfl rfl) <| sv (yExt rfl rfl) ?_
   refine salloc hS Tryz.zeroValue74 rfl ?_; clear hS; intro b18 w hS
   refine sst hS rfl rfl Tryz.sizeOf74 rfl rfl rfl rfl ?_; clear hS; intro w hS
   refine sv (yAsg rfl) <| nil <| cwQ <| seq <| seq <| region ?_
   have hS0 := hS
   have hb1 := hS.at b1
   have hb15 := hS.at b15
   have hb16 := hS.at b16
   have hb18 := hS.at b18
   have htv := hi3 w (fun it hi => hS.ok (packI i3) (by repeat first | (with_reducible exact List.mem_cons_self ..) | apply List.mem_cons_of_mem) it hi)
   have hbx := hi4 w (fun it hi => hS.ok (packI i4) (by repeat first | (with_reducible exact List.mem_cons_self ..) | apply List.mem_cons_of_mem) it hi)
   have hev := hi5 w (fun it hi => hS.ok (packI i5) (by repeat first | (with_reducible exact List.mem_cons_self ..) | apply List.mem_cons_of_mem) it hi)
   have ht1 := (hT0 w (fun it hi => hS.ok (packI is0) (by repeat first | (with_reducible exact List.mem_cons_self ..) | apply List.mem_cons_of_mem) it hi))
   have hg1 := hg.ext hS.ext
   have hE0 := hS.ext
   rw [show ((boxS exS 95, (0 : Int)).1).map (toBxs exS.frm) = kBx from exs_box] at hbx
   obtain ⟨w0, hwq⟩ : ∃ wq, wq = w := ⟨w, rfl⟩
   rw [← hwq] at hS0 hb1 hb15 hb16 hb18 htv hbx hev ht1 hg1 hE0
   replace hS : StX [] w0 w [] := by rw [hwq]; exact St.start w
   clear hwq
   obtain ⟨ab, cb, rfl, -⟩ := id hbx
   obtain ⟨gb, ob, c0, hab, -, hc0, hR0, -⟩ := sl_at (i := 0) hbx rfl
   obtain ⟨m0, l0, h0, rfl, -, -, hm0, hl0, -⟩ := hR0
   obtain ⟨gb2, ob2, c2, hab2, -, hc2, hR2, -⟩ := sl_at (i := 2) hbx rfl
   obtain ⟨m2, l2, h2, rfl, -, -, -, -, hh2⟩ := hR2
   refine sv (yMove rfl) <| sv (yNeq rfl rfl) <| sv (yMove rfl) <| ungo rfl rfl rfl <| sv (yMove rfl) <| ungo rfl rfl rfl <| sv (yNeq rfl rfl) <| sv (yOrF rfl rfl rfl rfl (by first | rfl | decide)) <| sv (yMove rfl) ?_
   refine ungo rfl rfl rfl <| sv (yMove rfl) <| ungo rfl rfl rfl <| sv (yNeq rfl rfl) <| sv (yOrF rfl rfl rfl rfl (by first | rfl | decide)) <| sv (yMove rfl) <| ungo rfl rfl rfl <| sv (yMove rfl) <| ungo rfl rfl rfl ?_
   refine sv (yNeq rfl rfl) <| sv (yOrF rfl rfl rfl rfl (by first | rfl | decide)) <| sv (yMove rfl) <| ungo rfl rfl rfl <| sv (yMove rfl) <| ungo rfl rfl rfl <| sv (yBuild Tryz.zeroValue74 rfl pl74 (.cons rfl rfl (.cons rfl rfl .nil)) rfl) <| ungo rfl rfl rfl <| sv (yBuild Tryz.zeroValue74 rfl pl74 (.cons rfl rfl (.cons rfl rfl .nil)) rfl) ?_
   refine ungo rfl rfl rfl <| sv (yBuild Tryz.zeroValue74 rfl pl74 (.cons rfl rfl (.cons rfl rfl .nil)) rfl) <| ungo rfl rfl rfl ?_
   refine sbslice hS Tryz.underlying86 Tryz.sizeOf74 rfl Tryz.zeroValue74 rfl (.cons rfl rfl (.cons rfl rfl (.cons rfl rfl .nil))) rfl ?_; clear hS; intro b121 w hS
   refine ungo rfl rfl rfl ?_
   refine scall Tryz.call43 (.cons rfl (.cons rfl .nil)) (c_SpansS (htv.ext RSpan.stays hS.ext) (show Sl w 2 RSpan (.slice (some ⟨b121, 0, none⟩) 3 3) ([⟨-20000, 20000⟩, ⟨2300, 2700⟩, ⟨2400, 2800⟩] : List Span) from sl_of_blk (hS.at b121) (css := [[.int .i64 (-20000), .int .i64 20000], [.int .i64 2300, .int .i64 2700], [.int .i64 2400, .int .i64 2800]]) (l := ([⟨-20000, 20000⟩, ⟨2300, 2700⟩, ⟨2400, 2800⟩] : List Span)) rfl ⟨rfl, ⟨rfl, by decide, by decide⟩, rfl, ⟨rfl, by decide, by decide⟩, rfl, ⟨rfl, by decide, by decide⟩, trivial⟩ (by decide) rfl)) ?_
   rintro _ w ⟨rfl, hE⟩; replace hS := hS.step hE; clear hE
   refine ungo rfl rfl rfl <| sv (yNot rfl) <| sv (yOrF rfl rfl rfl rfl (by first | rfl | decide)) <| sv (yMove rfl) <| ungo rfl rfl rfl <| sv (yMove rfl) <| ungo rfl rfl rfl <| sv (yLen rfl Tryz.underlying35) <| ungo rfl rfl rfl ?_
   refine sv (yNeq rfl rfl) <| sv (yOrF rfl rfl rfl rfl (by first | rfl | decide)) <| sv (yMove rfl) <| ungo rfl rfl rfl <| sv (yMove rfl) <| ungo rfl rfl rfl <| sv (yIxa rfl hab rfl Tryz.runUnderlying35 Tryz.sizeOf43 (by decide) (by decide)) <| ungo rfl rfl rfl <| sv (fa43_0 rfl) ?_
   refine ungo rfl rfl rfl <| sv (yLd rfl Tryz.isAgg39 ((hc0.ext hS.ext).at (j := 0) rfl)) <| ungo rfl rfl rfl ?_
   refine sbslice hS Tryz.underlying39 Tryz.sizeOf3 rfl Tryz.zeroValue3 rfl (.cons rfl rfl (.cons rfl rfl .nil)) rfl ?_; clear hS; intro b135 w hS
   refine ungo rfl rfl rfl ?_
   refine scall Tryz.call22 (.cons rfl (.cons rfl .nil)) (c_Ints (hm0.ext RInt.stays hS.ext) (ints_sl (l := [-1, 0]) (hS.at b135) (by decide) (by decide))) ?_
   rintro _ w ⟨rfl, hE⟩; replace hS := hS.step hE; clear hE
   refine ungo rfl rfl rfl <| sv (yNot rfl) <| sv (yOrF rfl rfl rfl rfl (by first | rfl | decide)) <| sv (yMove rfl) <| ungo rfl rfl rfl <| sv (yMove rfl) <| ungo rfl rfl rfl <| sv (yIxa rfl hab rfl Tryz.runUnderlying35 Tryz.sizeOf43 (by decide) (by decide)) <| ungo rfl rfl rfl ?_
   refine sv (fa43_1 rfl) <| ungo rfl rfl rfl <| sv (fa41_1 rfl) <| ungo rfl rfl rfl <| sv (yLd rfl Tryz.isAgg39 ((hc0.ext hS.ext).at (j := 2) rfl)) <| ungo rfl rfl rfl ?_
   refine sbslice hS Tryz.underlying39 Tryz.sizeOf3 rfl Tryz.zeroValue3 rfl (.cons rfl rfl (.cons rfl rfl (.cons rfl rfl .nil))) rfl ?_; clear hS; intro b145 w hS
   refine ungo rfl rfl rfl ?_
   refine scall Tryz.call22 (.cons rfl (.cons rfl .nil)) (c_Ints (hl0.ext RInt.stays hS.ext) (ints_sl (l := [1500, 2300, 2400]) (hS.at b145) (by decide) (by decide))) ?_
   rintro _ w ⟨rfl, hE⟩; replace hS := hS.step hE; clear hE
   refine ungo rfl rfl rfl <| sv (yNot rfl) <| sv (yOrF rfl rfl rfl rfl (by first | rfl | decide)) <| sv (yMove rfl) <| ungo rfl rfl rfl <| sv (yMove rfl) <| ungo rfl rfl rfl <| sv (yIxa rfl hab2 rfl Tryz.runUnderlying35 Tryz.sizeOf43 (by decide) (by decide)) <| ungo rfl rfl rfl ?_
   refine sv (fa43_2 rfl) <| ungo rfl rfl rfl <| sv (fa41_1 rfl) <| ungo rfl rfl rfl <| sv (yLd rfl Tryz.isAgg39 ((hc2.ext hS.ext).at (j := 4) rfl)) <| ungo rfl rfl rfl ?_
   refine sbslice hS Tryz.underlying39 Tryz.sizeOf3 rfl Tryz.zeroValue3 rfl (.cons rfl rfl (.cons rfl rfl (.cons rfl rfl .nil))) rfl ?_; clear hS; intro b155 w hS
   refine ungo rfl rfl rfl ?_
   refine scall Tryz.call22 (.cons rfl (.cons rfl .nil)) (c_Ints (hh2.ext RInt.stays hS.ext) (ints_sl (l := [700, 950, 1150]) (hS.at b155) (by decide) (by decide))) ?_
   rintro _ w ⟨rfl, hE⟩; replace hS := hS.step hE; clear hE
   refine ungo rfl rfl rfl <| sv (yNot rfl) <| sv (yOrF rfl rfl rfl rfl (by first | rfl | decide)) <| sv (yMove rfl) <| ungo rfl rfl rfl <| sv (fa41_1 rfl) <| ungo rfl rfl rfl <| sv (yLdB rfl Tryz.isAgg39 (hS.ext.get hb15) rfl) <| ungo rfl rfl rfl ?_
   refine sbslice hS Tryz.underlying39 Tryz.sizeOf3 rfl Tryz.zeroValue3 rfl (.cons rfl rfl (.cons rfl rfl (.cons rfl rfl .nil))) rfl ?_; clear hS; intro b162 w hS
   refine ungo rfl rfl rfl ?_
   refine scall Tryz.call22 (.cons rfl (.cons rfl .nil)) (c_Ints (hev.1.ext RInt.stays hS.ext) (ints_sl (l := [300, 450, 650]) (hS.at b162) (by decide) (by decide))) ?_
   rintro _ w ⟨rfl, hE⟩; replace hS := hS.step hE; clear hE
   refine ungo rfl rfl rfl <| sv (yNot rfl) <| sv (yOrF rfl rfl rfl rfl (by first | rfl | decide)) <| sv (yMove rfl) <| ungo rfl rfl rfl <| sv (fa41_1 rfl) <| ungo rfl rfl rfl <| sv (yLdB rfl Tryz.isAgg39 (hS.ext.get hb16) rfl) <| ungo rfl rfl rfl ?_
   refine sbslice hS Tryz.underlying39 Tryz.sizeOf3 rfl Tryz.zeroValue3 rfl (.cons rfl rfl (.cons rfl rfl (.cons rfl rfl .nil))) rfl ?_; clear hS; intro b169 w hS
   refine ungo rfl rfl rfl ?_
   refine scall Tryz.call22 (.cons rfl (.cons rfl .nil)) (c_Ints (hev.2.ext RInt.stays hS.ext) (ints_sl (l := [3500, 2700, 2800]) (hS.at b169) (by decide) (by decide))) ?_
   rintro _ w ⟨rfl, hE⟩; replace hS := hS.step hE; clear hE
   refine ungo rfl rfl rfl <| sv (yNot rfl) <| sv (yOrF rfl rfl rfl rfl (by first | rfl | decide)) <| sv (yMove rfl) <| ungo rfl rfl rfl <| sv (yLdBA rfl Tryz.isAgg74 Tryz.sizeOf74 (hS.ext.get hb18) rfl rfl) <| ungo rfl rfl rfl <| sv (yBuild Tryz.zeroValue74 rfl pl74 (.cons rfl rfl (.cons rfl rfl .nil)) rfl) <| ungo rfl rfl rfl ?_
   refine sv (neS74 rfl rfl) <| sv (yOrF rfl rfl rfl rfl (by first | rfl | decide)) <| nil <| cwQ ?_
   refine cond rfl (fun c177 => ?_) (fun c177 => ?_)
   ·
    exfalso
    revert c177
    decide
   ·
    refine skip <| cwQ <| seq <| region ?_
    refine sbslice hS Tryz.underlying39 Tryz.sizeOf3 rfl Tryz.zeroValue3 rfl (.cons rfl rfl (.cons rfl rfl (.cons rfl rfl .nil))) rfl ?_; clear hS; intro b178 w hS
    refine sv (yBuild Tryz.zeroValue41 rfl pl41 (.cons rfl rfl (.cons rfl rfl .nil)) rfl) ?_
    refine salloc hS Tryz.zeroValue41 rfl ?_; clear hS; intro b20 w hS
    refine sst hS rfl rfl Tryz.sizeOf41 rfl rfl rfl rfl ?_; clear hS; intro w hS
    refine nil <| cwQ <| seq <| region <| sv (yLdBA h1 Tryz.isAgg29 Tryz.sizeOf29 (hS.ext.get hb1) rfl rfl) <| sv (yLdBA rfl Tryz.isAgg41 Tryz.sizeOf41 (hS.at _) rfl rfl) ?_
    refine scall Tryz.call30 (.cons rfl (.cons rfl (.cons rfl .nil))) (k_Right (ht1.ext hS.ext) (hg1.ext hS.ext) (ints_sl (l := [1000, 1500, 2000]) (hS.at b178) (by decide) (by decide))) ?_
    rintro _ w ⟨gr, og, cr, i6, rfl, hi6, hM⟩; replace hS := hS.call1 hM; clear hM
    refine sv (yMove rfl) <| sv (yExt rfl rfl) <| sv (yExt rfl rfl) <| sv (yAsg rfl) <| sv (yAsg rfl) <| nil <| cwQ <| seq <| region ?_
    refine sv (yLdBA h1 Tryz.isAgg29 Tryz.sizeOf29 (hS.ext.get hb1) rfl rfl) <| sv (yLdBA rfl Tryz.isAgg41 Tryz.sizeOf41 (hS.at _) rfl rfl) ?_
    refine scall Tryz.call26 (.cons rfl (.cons rfl (.cons rfl .nil))) (k_Is5 (ht1.ext hS.ext) (hg1.ext hS.ext) (ints_sl (l := [1000, 1500, 2000]) (hS.at b178) (by decide) (by decide))) ?_
    rintro _ w ⟨rfl, hE⟩; replace hS := hS.step hE; clear hE
    refine sv (yMove rfl) <| sv (yExt rfl rfl) <| sv (yExt rfl rfl) <| sv (yAsg rfl) <| sv (yAsg rfl) <| nil <| cwQ <| seq <| region ?_
    refine sv (yLdBA h1 Tryz.isAgg29 Tryz.sizeOf29 (hS.ext.get hb1) rfl rfl) <| sv (yLdBA rfl Tryz.isAgg41 Tryz.sizeOf41 (hS.at _) rfl rfl) ?_
    refine scall Tryz.call26 (.cons rfl (.cons rfl (.cons rfl .nil))) (k_Is6 (ht1.ext hS.ext) (hg1.ext hS.ext) (ints_sl (l := [1000, 1500, 2000]) (hS.at b178) (by decide) (by decide))) ?_
    rintro _ w ⟨rfl, hE⟩; replace hS := hS.step hE; clear hE
    refine sv (yMove rfl) <| sv (yExt rfl rfl) <| sv (yExt rfl rfl) <| sv (yAsg rfl) <| sv (yAsg rfl) <| nil <| cwQ <| seq <| seq ?_
    refine region <| sv (yMove rfl) <| sv (yNeq rfl rfl) <| sv (yMove rfl) <| ungo rfl rfl rfl <| sv (yMove rfl) <| ungo rfl rfl rfl <| sv (yNeq rfl rfl) <| sv (yOrF rfl rfl rfl rfl (by first | rfl | decide)) ?_
    refine sv (yMove rfl) <| ungo rfl rfl rfl <| sv (yMove rfl) <| ungo rfl rfl rfl <| sv (yNeq rfl rfl) <| sv (yOrF rfl rfl rfl rfl (by first | rfl | decide)) <| sv (yMove rfl) <| ungo rfl rfl rfl <| sv (yMove rfl) ?_
    refine ungo rfl rfl rfl <| sv (yLen rfl Tryz.underlying78) <| ungo rfl rfl rfl <| sv (yNeq rfl rfl) <| sv (yOrF rfl rfl rfl rfl (by first | rfl | decide)) <| sv (yMove rfl) <| ungo rfl rfl rfl <| sv (yMove rfl) <| ungo rfl rfl rfl ?_
    refine sv (yIxa rfl rfl rfl Tryz.runUnderlying78 Tryz.sizeOf4 (by decide) (by decide)) <| ungo rfl rfl rfl <| sv (yLd rfl Tryz.isAgg4 (hi6 w (fun it hi => hS.ok (packI i6) (by repeat first | (with_reducible exact List.mem_cons_self ..) | apply List.mem_cons_of_mem) it hi)).1.one) <| ungo rfl rfl rfl <| sv (yNot rfl) <| sv (yOrF rfl rfl rfl rfl (by first | rfl | decide)) <| sv (yMove rfl) <| ungo rfl rfl rfl <| sv (yMove rfl) ?_
    refine ungo rfl rfl rfl <| sv (yIxa rfl rfl rfl Tryz.runUnderlying78 Tryz.sizeOf4 (by decide) (by decide)) <| ungo rfl rfl rfl <| sv (yLd rfl Tryz.isAgg4 (hi6 w (fun it hi => hS.ok (packI i6) (by repeat first | (with_reducible exact List.mem_cons_self ..) | apply List.mem_cons_of_mem) it hi)).2.one) <| sv (yOrF rfl rfl rfl rfl (by first | rfl | decide)) <| sv (yMove rfl) <| ungo rfl rfl rfl <| sv (yMove rfl) <| ungo rfl rfl rfl ?_
    refine sv (yNot rfl) <| sv (yOrF rfl rfl rfl rfl (by first | rfl | decide)) <| sv (yMove rfl) <| ungo rfl rfl rfl <| sv (yMove rfl) <| sv (yOrF rfl rfl rfl rfl (by first | rfl | decide)) <| nil <| cwQ ?_
    refine cond rfl (fun c230 => ?_) (fun c230 => ?_)
    ·
     exfalso
     revert c230
     decide
    ·
     refine skip <| cwQ <| seq <| region ?_
     replace hS := hS0.step hS.ext
     refine sv (fa29_8 h1) ?_
     refine sst hS rfl rfl Tryz.sizeOf3 rfl rfl rfl rfl ?_; clear hS; intro w hS
     refine nil <| cwQ <| seq <| region <| sv (yLdBA h1 Tryz.isAgg29 Tryz.sizeOf29 (hS.at _) rfl rfl) ?_
     refine scall Tryz.call35 (.cons rfl (.cons rfl .nil)) (k_Sus (exs_most (hT0 w (fun it hi => hS.ok (packI is0) (by repeat first | (with_reducible exact List.mem_cons_self ..) | apply List.mem_cons_of_mem) it hi))) (hg.ext hS.ext)) ?_
     rintro _ w ⟨lv9, i7, rfl, hi7, hM⟩; replace hS := hS.call1 hM; clear hM
     refine sv (yMove rfl) <| sv (yExt rfl rfl) <| sv (yExt rfl rfl) <| sv (yAsg rfl) <| sv (yAsg rfl) <| nil <| cwQ <| seq <| region ?_
     refine scall Tryz.call52 .nil c_ExampleP ?_
     rintro _ w ⟨bc2, bf2, is1, rfl, hT1, hM⟩; replace hS := hS.call1 hM; clear hM
     refine sst hS h1 rfl Tryz.sizeOf29 rfl rfl rfl rfl ?_; clear hS; intro w hS
     refine nil <| cwQ <| seq <| region <| sv (fa29_10 h1) ?_
     refine sst hS rfl rfl Tryz.sizeOf3 rfl rfl rfl rfl ?_; clear hS; intro w hS
     refine nil <| cwQ <| seq <| region <| sv (yLdBA h1 Tryz.isAgg29 Tryz.sizeOf29 (hS.at _) rfl rfl) ?_
     refine scall Tryz.call48 (.cons rfl (.cons rfl .nil)) (k_Envq (exs_quo (hT1 w (fun it hi => hS.ok (packI is1) (by repeat first | (with_reducible exact List.mem_cons_self ..) | apply List.mem_cons_of_mem) it hi))) (hg.ext hS.ext)) ?_
     rintro _ w ⟨lw, hw, i8, rfl, -, hM⟩; replace hS := hS.call1 hM; clear hM
     refine sv (yMove rfl) <| sv (yExt rfl rfl) <| sv (yExt rfl rfl) <| sv (yExt rfl rfl) <| sv (yAsg rfl) <| nil <| cwQ <| seq <| region ?_
     refine sv (yMove rfl) <| sv (yEql rfl rfl) <| sv (yMove rfl) <| ungo rfl rfl rfl <| sv (yMove rfl) <| ungo rfl rfl rfl <| sv (yEql rfl rfl) <| sv (yAndT rfl rfl rfl (by first | rfl | decide) rfl) <| sv (yMove rfl) ?_
     refine ungo rfl rfl rfl <| sv (yMove rfl) <| ungo rfl rfl rfl ?_
     refine sbslice hS Tryz.underlying39 Tryz.sizeOf3 rfl Tryz.zeroValue3 rfl (.cons rfl rfl .nil) rfl ?_; clear hS; intro b253 w hS
     refine ungo rfl rfl rfl ?_
     refine scall Tryz.call22 (.cons rfl (.cons rfl .nil)) (c_Ints (hi7 w (fun it hi => hS.ok (packI i7) (by repeat first | (with_reducible exact List.mem_cons_self ..) | apply List.mem_cons_of_mem) it hi)) (ints_sl (l := [1]) (hS.at b253) (by decide) (by decide))) ?_
     rintro _ w ⟨rfl, hE⟩; replace hS := hS.step hE; clear hE
     refine sv (yAndT rfl rfl rfl (by first | rfl | decide) rfl) <| sv (yMove rfl) <| ungo rfl rfl rfl ?_
     refine scall Tryz.call19 .nil (c_Awake (hg.ext hS.ext)) ?_
     rintro _ w ⟨rfl, hE⟩; replace hS := hS.step hE; clear hE
     refine sv (yAndT rfl rfl rfl (by first | rfl | decide) rfl) <| sv (yAsg rfl) <| nil <| cwQ <| wp_ret ?_
     exact retV (res1 rfl rfl) hS.ext
end Go.Proofs.YtgidbailiababaaGreatDoor

