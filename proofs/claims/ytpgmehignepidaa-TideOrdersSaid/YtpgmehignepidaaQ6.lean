/- Merged texts, part 6. -/
import Derived.Test.YtpgmehignepidaaQ5
set_option linter.all false
/- part LibX -/
namespace Bx
open Go Go.RowKit
section
variable {P : Program} {ops : Array Oper} {Q : Exit → Act → World → Prop} {C : World → Prop} {m : Nat} {nf : Nat} {f : Fr} {w : World}
def goB (ops : Array Oper) (m : Nat) (listed : Array Bool) (k : Nat) : Bool :=
  Region.noSelect ops && (Region.ready .any ops listed).contains k && Region.free .any ops listed k && ((List.range ops.size).all fun j => Nat.blt j m || Region.waitsFor .any ops j k)
/-- A free operation is taken first. -/
theorem f_step {fuel : Nat} {listed : Array Bool} {d : Nat} {op : Op} {ty : TypeId} {pos : String} {af : Array Edge} {v : Value} (k : Nat) (hB : goB ops m listed k = true) (hi : ops[k]? = some ⟨some d, op, ty, pos, af, none⟩) (hQ : ∀ c a a' w, Q (.panic c) a w → Q (.panic c) a' w) (hC : C w)
    (hr : ∀ w, C w → Y P (ev nf f) op ty w v w) (h : wpA P ops Q C m fuel (listed.setIfInBounds k true) nf (upd f d v) w) : wpA P ops Q C m (fuel + 1) listed nf f w := by
  simp only [goB, Bool.and_eq_true] at hB
  obtain ⟨⟨⟨hs, hrd⟩, hfr⟩, hlate⟩ := hB
  refine wpAC_first (v := v) hi (Region.noSelect_spec hs) hQ ?_ fuel listed (mk nf f) w hC (Region.free_spec hi hfr) (by simpa using hrd) (.inl ⟨by simp [Region.wanted], fun w hC => ?_⟩) ?_
  · intro j oj hoj hm
    have h1 := List.all_eq_true.1 hlate j (List.mem_range.2 (Array.getElem?_eq_some_iff.1 hoj).1)
    simp only [Bool.or_eq_true, Nat.blt_eq] at h1
    obtain ⟨oj', hoj', e, he, hb, hon⟩ := Region.waitsFor_spec (h1.resolve_left (by omega))
    rw [hoj] at hoj'
    obtain rfl := Option.some.inj hoj'
    exact ⟨e, he, hb, hon⟩
  · rw [mk_eval, execOp_xop, hr w hC]
  · show wpAC P .any ops Q C m fuel (listed.setIfInBounds k true) ((mk nf f).put (some d) v) w
    rw [mk_put]
    exact h
/-- A statement that draws its order, from the start. -/
theorem region_mix {S : List Nat} {w0 : World} {L : List Item} {id : Nat} {l : List Oper} (C : World → Prop) (m : Nat) (hm : P.follows .mixedOrders = true) (hS : StX S w0 w L)
    (h : ∀ w, StX S w0 w L → wpA P l.toArray Q C m l.length (Array.replicate l.length false) nf f w) : (Code.region id l.toArray true).wp P Q (mk nf f) w := by
  refine wp_region_any hm (wpAny_of_AC (C := C) (m := m) _ _ _ _ ?_)
  have := h _ (hS.step (ext_drew w))
  simpa [wpA] using this
end
section
variable {P : Program} {ρ : Operand → Value} {w : World} {ty : TypeId}
/-- A slice from its first k-th part on, shorter than its room. -/
theorem yFrom {T E : TypeId} {x xi : Operand} {b o cap i k m : Nat} {kd : IntKind} (hx : ρ x = .slice (some ⟨b, o, none⟩) m cap) (hi : ρ xi = .int kd (i : Int)) (hu : P.underlying T = some (.slice E)) (hs : ∀ w, (Go.sizeOf E).run P w = .ok k w) (hm : i ≤ m) (hc : i < cap) :
    Y P ρ (.slice T x (some xi) none none) ty w (.slice (some ⟨b, o + i * k, none⟩) (m - i) (cap - i)) w := by
  have hb : (0 : Int) ≤ (i : Int) ∧ (i : Int) ≤ (m : Int) := ⟨by omega, by omega⟩
  have h1 : (⟨b, o, none⟩ : Addr).add (i * k) = ⟨b, o + i * k, none⟩ := addr_add ..
  have h2 : ¬ cap = i := by omega
  simp only [Y, xop, execOp, Option.map_some, Option.map_none, hx, hi, Instr.sliceAt, run_underlying hu, Sem.run_bind, Result.andThen_ok, Instr.slice, Instr.sliceBounds, Instr.sliceBound, asIntOf, Sem.run_pure, Sem.run_ite, hb, and_self, if_true, hs, Int.toNat_natCast, h1, h2, if_false]
end
theorem Cells.append {w : World} {b o : Nat} {xs ys : List Value} (h : Cells w b o xs) (k : Cells w b (o + xs.length) ys) : Cells w b o (xs ++ ys) := by
  intro j v hv
  by_cases hj : j < xs.length
  · rw [List.getElem?_append_left hj] at hv; exact h j v hv
  · rw [List.getElem?_append_right (by omega)] at hv
    have := k _ v hv
    rwa [show o + xs.length + (j - xs.length) = o + j by omega] at this
theorem Rows.flen {α : Type} {w : World} {k : Nat} {R : World → List Value → α → Prop} : ∀ {css : List (List Value)} {l : List α}, Bx.Rows w k R css l → css.flatten.length = l.length * k
  | [], [], _ => by simp
  | cs :: css, x :: l, ⟨h1, _, h3⟩ => by
    rw [List.flatten_cons, List.length_append, h1, Rows.flen h3, List.length_cons, Nat.succ_mul]; omega
/-- The parts of a slice, as rows of cells. -/
theorem sl_rows {α : Type} {w : World} {k : Nat} {R : World → List Value → α → Prop} {b o cap : Nat} {l : List α} (h : Sl w k R (.slice (some ⟨b, o, none⟩) l.length cap) l) : ∀ n, n ≤ l.length → ∃ css, Bx.Rows w k R css (l.take n) ∧ Cells w b o css.flatten
  | 0, _ => ⟨[], trivial, fun j v hv => by simp at hv⟩
  | n + 1, hn => by
    obtain ⟨css, h1, h2⟩ := sl_rows h n (by omega)
    obtain ⟨a, c, e, _, _, hel⟩ := h
    obtain ⟨rfl, rfl⟩ := slice_inj e.symm
    obtain ⟨b2, o2, cs, ha, hl, hcs, hR⟩ := hel n (by omega)
    simp only [Option.some.injEq, Addr.mk.injEq, and_true] at ha
    obtain ⟨rfl, rfl⟩ := ha
    refine ⟨css ++ [cs], ?_, ?_⟩
    · rw [take_snoc (List.getElem?_eq_getElem (show n < l.length by omega))]; exact h1.snoc hl hR
    · rw [List.flatten_append, List.flatten_cons, List.flatten_nil, List.append_nil]
      refine h2.append ?_
      rw [h1.flen, List.length_take, Nat.min_eq_left (by omega)]
      exact hcs
theorem sl_tail {α : Type} {w : World} {k : Nat} {R : World → List Value → α → Prop} {b o cap : Nat} {x : α} {l : List α} (h : Sl w k R (.slice (some ⟨b, o, none⟩) (x :: l).length cap) (x :: l)) : Sl w k R (.slice (some ⟨b, o + k, none⟩) l.length (cap - 1)) l := by
  obtain ⟨a, c, e, h1, h2, hel⟩ := h
  obtain ⟨rfl, rfl⟩ := slice_inj e.symm
  simp only [List.length_cons] at h1
  refine ⟨_, _, rfl, by omega, by omega, fun i hi => ?_⟩
  obtain ⟨b2, o2, cs, ha, hl, hcs, hR⟩ := hel (i + 1) (by simp; omega)
  simp only [Option.some.injEq, Addr.mk.injEq, and_true] at ha
  obtain ⟨rfl, rfl⟩ := ha
  refine ⟨b, o + k, cs, rfl, hl, ?_, hR⟩
  rw [Nat.add_assoc, show k + i * k = (i + 1) * k by rw [Nat.succ_mul]; omega]
  exact hcs
section
variable {P : Program} {ops : Array Oper} {Q : Exit → Act → World → Prop} {n : Nat} {f : Fr} {S : List Nat} {w0 w : World} {L : List Item} {rest : List Oper} {d : Nat} {ty : TypeId} {pos : String} {af : Array Edge}
/-- A slice's literal without parts. -/
theorem sbslice0 {T E : TypeId} {sz : Nat} (hS : StX S w0 w L) (hT : P.underlying T = some (.slice E)) (hs : ∀ w, (Go.sizeOf E).run P w = .ok sz w)
    (h : ∀ b w', StX S w0 w' (rowI (.slice (some ⟨b, 0, none⟩) 0 0) E sz 0 [] :: L) → wpL P ops Q n rest (upd f d (.slice (some ⟨b, 0, none⟩) 0 0)) w') : wpL P ops Q n (⟨some d, .buildSlice T 0 #[], ty, pos, af, none⟩ :: rest) f w := by
  have hS2 : StX S w0 (w.alloc (.cells #[] E (0, 0))) (blk w.heap.size [] E :: L) := hS.call1 (St.new w _)
  refine sv (v := .slice (some ⟨w.heap.size, 0, none⟩) 0 0) (w' := w.alloc (.cells #[] E (0, 0))) ?_ (h w.heap.size _ (hS2.toRow sz 0 (by simp) (by decide)))
  simp [Y, xop, execOp, Instr.buildSlice, run_underlying hT, hs, Instr.fill, newRow]
  congr 2
  apply Array.ext' 
  simp
end
end Bx
/- part P28 -/
namespace Bx
open Go Go.RowKit
theorem gErrs_of : ∀ {l : List Gauge}, (∀ g ∈ l, (checkG g).2.2 = 0) → gErrs l = 0
  | [], _ => rfl
  | x :: l, h => by rw [gErrs, if_neg (fun k => k (h x (List.mem_cons_self ..)))]; exact gErrs_of fun g hg => h g (List.mem_cons_of_mem _ hg)
theorem gaugesE_perm {l m : List Gauge} {t now : Int} (h : l.Perm m) (hz : gaugesE l t now = 0) : gaugesE m t now = 0 := by
  obtain ⟨h8, _, hnd, htk⟩ := gaugesE_zero hz
  have hck := gauges_checks hz
  have hlen := h.length_eq
  unfold gaugesE
  rw [if_neg (by omega), gErrs_of (fun g hg => hck g (h.mem_iff.2 hg)), if_neg (by simp), if_neg (fun k => k ((h.map _).nodup_iff.1 hnd)), htk]
theorem spans_perm {l m : List Gauge} {t now : Int} (h : l.Perm m) : (spansG t now l).Perm (spansG t now m) := h.flatMap_right _
theorem sortE_eq {E F : List (Int × Int)} (h : E.Perm F) : sortE E = sortE F := by
  have key : ∀ G : List (Int × Int), (sortE G).Pairwise fun x y => (!(ltE y x)) = true := fun G =>
    List.pairwise_mergeSort (le := fun x y => !(ltE y x)) (fun a b c h1 h2 => by
      simp only [Bool.not_eq_true'] at *
      exact ltE_ntrans c b a h2 h1) (fun a b => by
      simp only [Bool.or_eq_true, Bool.not_eq_true']
      by_cases h : ltE b a = true
      · right
        simp only [ltE, decide_eq_true_eq, decide_eq_false_iff_not] at *; omega
      · left; simpa using h) G
  refine List.Perm.eq_of_pairwise (le := fun x y => (!(ltE y x)) = true) ?_ (key E) (key F) (((sortE_perm E).trans h).trans (sortE_perm F).symm)
  intro a b _ _ h1 h2
  simp only [ltE, Bool.not_eq_true', decide_eq_false_iff_not] at h1 h2
  exact Prod.ext (by omega) (by omega)
theorem pieces_perm {l m : List Gauge} {t now : Int} (h : l.Perm m) : piecesF t now l = piecesF t now m := by
  rw [piecesF_S, piecesF_S]
  unfold piecesS
  rw [sortE_eq ((spans_perm h).flatMap_right _)]
theorem soundE_perm {l m : List Gauge} {wrong t now : Int} (h : l.Perm m) (hz : soundE l wrong t now = 0) : soundE m wrong t now = 0 := by
  obtain ⟨hg, hw⟩ := soundE_zero (fun k => k hz)
  have hlen := h.length_eq
  exact soundE_ok (fun k => k (gaugesE_perm h hg)) (outB_false.2 ⟨by omega, by omega⟩)
theorem sound_perm {l m : List Gauge} {wrong t now : Int} (h : l.Perm m) : (soundF l wrong t now).1 = (soundF m wrong t now).1 ∧ ((soundF l wrong t now).2 = 0 ↔ (soundF m wrong t now).2 = 0) := by
  by_cases hz : soundE l wrong t now = 0
  · have hz2 := soundE_perm h hz
    rw [soundF_ok hz, soundF_ok hz2, pieces_perm h, h.length_eq]
    exact ⟨rfl, Iff.rfl⟩
  · have hz2 : soundE m wrong t now ≠ 0 := fun k => hz (soundE_perm h.symm k)
    rw [soundF_e rfl hz, soundF_e rfl hz2]
    exact ⟨rfl, ⟨fun k => absurd k hz, fun k => absurd k hz2⟩⟩
theorem agree_perm {l m : List Gauge} {t now : Int} (h : l.Perm m) : (agreeF l t now).1 = (agreeF m t now).1 ∧ ((agreeF l t now).2.2 = 0 ↔ (agreeF m t now).2.2 = 0) := by
  rw [agree_e, agree_e]
  by_cases hz : gaugesE l t now = 0
  · have hz2 := gaugesE_perm h hz
    rw [agree_ok hz, agree_ok hz2, pieces_perm h]
    exact ⟨rfl, ⟨fun _ => hz2, fun _ => hz⟩⟩
  · have hz2 : gaugesE m t now ≠ 0 := fun k => hz (gaugesE_perm h.symm k)
    have e1 : ∀ {u : List Gauge}, gaugesE u t now ≠ 0 → (agreeF u t now).1 = 0 := fun k => by unfold agreeF; rw [if_pos k]
    rw [e1 hz, e1 hz2]
    exact ⟨rfl, ⟨fun k => absurd k hz, fun k => absurd k hz2⟩⟩
theorem gauge_one {w : World} {cs : List Value} {g : Gauge} (h : RGauge w cs g) : cs.all (·.oneCell') = true := by
  obtain ⟨dv, rv, rfl, _, _, _, ⟨a, c, rfl, _⟩, ⟨a2, c2, rfl, _⟩⟩ := h
  rfl
theorem gauges_one {w : World} : ∀ {css : List (List Value)} {l : List Gauge}, Bx.Rows w 5 RGauge css l → css.flatten.all (·.oneCell') = true
  | [], [], _ => rfl
  | cs :: css, g :: l, ⟨_, h2, h3⟩ => by
    rw [List.flatten_cons, List.all_append, gauge_one h2, gauges_one h3]; rfl
end Bx
/- part Wk41 -/
namespace Go.Proofs.Ytpgmehignepidaa
open Go Bx
set_option maxHeartbeats 4000000 in
/-- barrage/barragelaw01.TideOrders -/
theorem w_TideOrders {l : List Gauge} {v : Value} {xs : List Value} {x : At} {w0 : World} (hl : Sl w0 5 RGauge v l) (hx : RAt w0 xs x) : CV Try.prog 12 #[v, .agg xs.toArray] w0 (.bool true) := by
  obtain ⟨a0, cap, rfl, hcap, hmx, hel⟩ := id hl
  obtain ⟨wrong, t, now⟩ := x
  replace hx : xs = [.int .i64 wrong, .int .i64 t, .int .i64 now] ∧ I64 wrong ∧ I64 t ∧ I64 now := hx
  obtain ⟨rfl, hw, ht, hn⟩ := hx
  refine enter Try.func12 rfl Try.ntmps12 rfl ?_
  have hS := St.start w0
  refine seq ?_
  refine region ?_
  refine sbox hS rfl rfl ?_; clear hS; intro b3 w hS
  refine sv (yAsg rfl) ?_
  refine nil ?_
  show Code.wp _ _ _ _ _
  refine seq ?_
  refine seq ?_
  refine region ?_
  refine sv (yMove rfl) ?_
  refine sv (yLen rfl Try.underlying66) ?_
  refine sv (yLss rfl rfl) ?_
  refine sv (yMove rfl) ?_
  refine sg rfl rfl rfl (fun g => (yMove rfl)) (fun v20 g20 => ?_)
  refine sg rfl rfl rfl (fun g => (yLen (g20.1 g) Try.underlying66)) (fun v21 g21 => ?_)
  refine sg rfl rfl rfl (fun g => (yGtr (g21.1 g) rfl)) (fun v22 g22 => ?_)
  refine sv (yOr rfl rfl (fun hB => (g22.1 hB))) ?_
  refine nil ?_
  show Code.wp _ _ _ _ _
  refine cond rfl (fun c23 => ?_) (fun c23 => ?_)
  ·
    simp only [Bool.and_eq_true, Bool.or_eq_true, Bool.and_eq_false_iff, Bool.or_eq_false_iff, decide_eq_true_eq, decide_eq_false_iff_not, Bool.not_eq_true, Bool.not_eq_false, Bool.not_not, Bool.not_eq_eq_eq_not, Bool.not_true, Bool.not_false, Bool.false_eq_true, Bool.true_eq_false, ne_eq, Decidable.not_not, not_false_eq_true, not_true_eq_false] at c23
    refine seq ?_
    refine region ?_
    refine scall Try.call23 .nil c_Awake ?_
    rintro _ w ⟨rfl, hE⟩; replace hS := hS.step hE; clear hE
    refine sv (yAsg rfl) ?_
    refine nil ?_
    show Code.wp _ _ _ _ _
    refine wp_ret (thenR ?_)
    exact retV (res1 rfl rfl) hS.ext
  ·
    simp only [Bool.and_eq_true, Bool.or_eq_true, Bool.and_eq_false_iff, Bool.or_eq_false_iff, decide_eq_true_eq, decide_eq_false_iff_not, Bool.not_eq_true, Bool.not_eq_false, Bool.not_not, Bool.not_eq_eq_eq_not, Bool.not_true, Bool.not_false, Bool.false_eq_true, Bool.true_eq_false, ne_eq, Decidable.not_not, not_false_eq_true, not_true_eq_false] at c23
    obtain ⟨g, l, rfl⟩ : ∃ g l2, l = g :: l2 := by
      cases l with
      | nil => simp at c23
      | cons g l => exact ⟨g, l, rfl⟩
    simp only [List.length_cons] at c23 hcap
    have hl1 : 1 ≤ l.length ∧ l.length ≤ 7 := by omega
    obtain ⟨bl, ol, cs0, ha0, hl0, hcs0, hR0⟩ := hel 0 (by simp)
    subst ha0
    obtain ⟨dv0, rv0, rfl, hnm0, hge0, hgr0, ⟨ad0, cd0, rfl, -⟩, ⟨ar0, cr0, rfl, -⟩⟩ := id hR0
    rw [Nat.zero_mul, Nat.add_zero] at hcs0
    have hl2 := sl_tail hl
    obtain ⟨css1, hr1, hc1⟩ := sl_rows hl2 l.length (Nat.le_refl _)
    rw [List.take_length] at hr1
    have hf1 := hr1.flen
    have hperm : (g :: l).Perm (l ++ [g]) := (List.perm_append_singleton g l).symm
    have hp1 := sound_perm (wrong := wrong) (t := t) (now := now) hperm
    have hp2 := agree_perm (t := t) (now := now) hperm
    refine skip ?_
    show Code.wp _ _ _ _ _
    refine seqJ (n := 101) (fun f w => ∃ (rv : Value) (css : List (List Value)), f 0 = .slice (some ⟨bl, ol, none⟩) (l.length + 1) cap ∧ f 3 = .pointer (some ⟨b3, 0, none⟩) ∧ f 5 = rv ∧ StX [] w0 w [rowI rv 34 5 (l ++ [g]).length css.flatten, blk b3 [.int .i64 wrong, .int .i64 t, .int .i64 now] 68] ∧ (Bx.Rows w0 5 RGauge css (l ++ [g])) ∧ True) ?_ ?_
    ·
      refine region_mix (fun w => StX [] w0 w []) 10 mixed hS ?_
      clear hS; intro w hS
      refine f_step 1 (by kernel_rfl) rfl (fun c a a' w h => by obtain ⟨_, v, hv, _⟩ := h; cases hv) (hS.sub (List.nil_sublist _)) (fun w hS => (yMove rfl)) ?_
      refine f_step 2 (by kernel_rfl) rfl (fun c a a' w h => by obtain ⟨_, v, hv, _⟩ := h; cases hv) (hS.sub (List.nil_sublist _)) (fun w hS => (yFrom (i := 1) (b := bl) (o := ol) rfl rfl Try.underlying66 Try.sizeOf34 (by simp) (by omega))) ?_
      refine f_step 4 (by kernel_rfl) rfl (fun c a a' w h => by obtain ⟨_, v, hv, _⟩ := h; cases hv) (hS.sub (List.nil_sublist _)) (fun w hS => (yMove rfl)) ?_
      refine f_step 5 (by kernel_rfl) rfl (fun c a a' w h => by obtain ⟨_, v, hv, _⟩ := h; cases hv) (hS.sub (List.nil_sublist _)) (fun w hS => (yIx (m := 0) rfl rfl Try.runUnderlying66 Try.sizeOf34 (by omega) (by simp))) ?_
      refine f_step 6 (by kernel_rfl) rfl (fun c a a' w h => by obtain ⟨_, v, hv, _⟩ := h; cases hv) (hS.sub (List.nil_sublist _)) (fun w hS => (yLdA rfl Try.isAgg34 Try.sizeOf34 (hcs0.ext hS.ext) hl0)) ?_
      show wpA _ _ _ _ _ _ _ _ _ _
      refine a_step (i := 0) (is := [7]) (by kernel_rfl) ⟨?_, ?_, trivial⟩
      ·
        refine ⟨_, rfl, ?_⟩
        refine sbslice0 hS Try.underlying66 Try.sizeOf34 ?_; clear hS; intro b25 w hS
        refine nil ?_
        refine ⟨fun _ => (hS.sub (List.nil_sublist _)), ?_⟩
        show wpA _ _ _ _ _ _ _ _ _ _
        show wpA _ _ _ _ _ _ _ _ _ _
        refine a_step (i := 3) (is := [7]) (by kernel_rfl) ⟨?_, ?_, trivial⟩
        ·
          refine ⟨_, rfl, ?_⟩
          refine sapp (bytes := 80) (size := 5) (v := (.slice (some ⟨b25, 0, none⟩) 0 0)) (m := l.length) hS rfl rfl Try.underlying66 ti34 rfl rfl rfl rfl (by decide) (hc1.ext hS.ext) hf1 (gauges_one hr1) (by omega) (by omega) ?_; clear hS; intro v28 w hS
          refine nil ?_
          refine ⟨fun _ => (hS.sub (List.nil_sublist _)), ?_⟩
          show wpA _ _ _ _ _ _ _ _ _ _
          show wpA _ _ _ _ _ _ _ _ _ _
          refine a_step (i := 7) (is := []) (by kernel_rfl) ⟨?_, trivial⟩
          refine ⟨_, rfl, ?_⟩
          refine sbslice hS Try.underlying66 Try.sizeOf34 rfl Try.zeroValue34 rfl (.cons rfl rfl .nil) rfl ?_; clear hS; intro b32 w hS
          refine nil ?_
          refine ⟨fun _ => (hS.sub (List.nil_sublist _)), ?_⟩
          show wpA _ _ _ _ _ _ _ _ _ _
          show wpA _ _ _ _ _ _ _ _ _ _
          refine a_step (i := 8) (is := []) (by kernel_rfl) ⟨?_, trivial⟩
          refine ⟨_, rfl, ?_⟩
          refine sapp (bytes := 80) (size := 5) (v := v28) (m := 1) hS rfl rfl Try.underlying66 ti34 rfl rfl rfl rfl (by decide) (blk_cells (hS.at _)) rfl rfl (by omega) (by omega) ?_; clear hS; intro v33 w hS
          refine nil ?_
          refine ⟨fun _ => (hS.sub (List.nil_sublist _)), ?_⟩
          show wpA _ _ _ _ _ _ _ _ _ _
          refine f_step 9 (by kernel_rfl) rfl (fun c a a' w h => by obtain ⟨_, v, hv, _⟩ := h; cases hv) (hS.sub (List.nil_sublist _)) (fun w hS => (yAsg rfl)) ?_
          refine a_end (by kernel_rfl) ?_
          exact ⟨_, rfl, _, css1 ++ [[.string g.name, .int .i64 g.err, .int .i64 g.rate, .slice ad0 g.datums.length cd0, .slice ar0 g.readings.length cr0]], rfl, rfl, rfl, (by first | (have h2 := hS.sub (.cons _ (List.Sublist.refl _)); rw [Nat.zero_add, List.nil_append] at h2; rw [flat_snoc, List.length_append]; exact h2) | (have h2 := hS.sub (.cons_cons _ (.cons _ (List.Sublist.refl _))); rw [Nat.zero_add, List.nil_append] at h2; rw [flat_snoc, List.length_append]; exact h2)), (hr1.snoc hl0 hR0), trivial⟩
        ·
          refine ⟨_, rfl, ?_⟩
          refine sbslice hS Try.underlying66 Try.sizeOf34 rfl Try.zeroValue34 rfl (.cons rfl rfl .nil) rfl ?_; clear hS; intro b32 w hS
          refine nil ?_
          refine ⟨fun _ => (hS.sub (List.nil_sublist _)), ?_⟩
          show wpA _ _ _ _ _ _ _ _ _ _
          show wpA _ _ _ _ _ _ _ _ _ _
          refine a_step (i := 3) (is := []) (by kernel_rfl) ⟨?_, trivial⟩
          refine ⟨_, rfl, ?_⟩
          refine sapp (bytes := 80) (size := 5) (v := (.slice (some ⟨b25, 0, none⟩) 0 0)) (m := l.length) hS rfl rfl Try.underlying66 ti34 rfl rfl rfl rfl (by decide) (hc1.ext hS.ext) hf1 (gauges_one hr1) (by omega) (by omega) ?_; clear hS; intro v28 w hS
          refine nil ?_
          refine ⟨fun _ => (hS.sub (List.nil_sublist _)), ?_⟩
          show wpA _ _ _ _ _ _ _ _ _ _
          show wpA _ _ _ _ _ _ _ _ _ _
          refine a_step (i := 8) (is := []) (by kernel_rfl) ⟨?_, trivial⟩
          refine ⟨_, rfl, ?_⟩
          refine sapp (bytes := 80) (size := 5) (v := v28) (m := 1) hS rfl rfl Try.underlying66 ti34 rfl rfl rfl rfl (by decide) (blk_cells (hS.at _)) rfl rfl (by omega) (by omega) ?_; clear hS; intro v33 w hS
          refine nil ?_
          refine ⟨fun _ => (hS.sub (List.nil_sublist _)), ?_⟩
          show wpA _ _ _ _ _ _ _ _ _ _
          refine f_step 9 (by kernel_rfl) rfl (fun c a a' w h => by obtain ⟨_, v, hv, _⟩ := h; cases hv) (hS.sub (List.nil_sublist _)) (fun w hS => (yAsg rfl)) ?_
          refine a_end (by kernel_rfl) ?_
          exact ⟨_, rfl, _, css1 ++ [[.string g.name, .int .i64 g.err, .int .i64 g.rate, .slice ad0 g.datums.length cd0, .slice ar0 g.readings.length cr0]], rfl, rfl, rfl, (by first | (have h2 := hS.sub (.cons _ (List.Sublist.refl _)); rw [Nat.zero_add, List.nil_append] at h2; rw [flat_snoc, List.length_append]; exact h2) | (have h2 := hS.sub (.cons_cons _ (.cons _ (List.Sublist.refl _))); rw [Nat.zero_add, List.nil_append] at h2; rw [flat_snoc, List.length_append]; exact h2)), (hr1.snoc hl0 hR0), trivial⟩
      ·
        refine ⟨_, rfl, ?_⟩
        refine sbslice hS Try.underlying66 Try.sizeOf34 rfl Try.zeroValue34 rfl (.cons rfl rfl .nil) rfl ?_; clear hS; intro b32 w hS
        refine nil ?_
        refine ⟨fun _ => (hS.sub (List.nil_sublist _)), ?_⟩
        show wpA _ _ _ _ _ _ _ _ _ _
        show wpA _ _ _ _ _ _ _ _ _ _
        refine a_step (i := 0) (is := []) (by kernel_rfl) ⟨?_, trivial⟩
        refine ⟨_, rfl, ?_⟩
        refine sbslice0 hS Try.underlying66 Try.sizeOf34 ?_; clear hS; intro b25 w hS
        refine nil ?_
        refine ⟨fun _ => (hS.sub (List.nil_sublist _)), ?_⟩
        show wpA _ _ _ _ _ _ _ _ _ _
        show wpA _ _ _ _ _ _ _ _ _ _
        refine a_step (i := 3) (is := []) (by kernel_rfl) ⟨?_, trivial⟩
        refine ⟨_, rfl, ?_⟩
        refine sapp (bytes := 80) (size := 5) (v := (.slice (some ⟨b25, 0, none⟩) 0 0)) (m := l.length) hS rfl rfl Try.underlying66 ti34 rfl rfl rfl rfl (by decide) (hc1.ext hS.ext) hf1 (gauges_one hr1) (by omega) (by omega) ?_; clear hS; intro v28 w hS
        refine nil ?_
        refine ⟨fun _ => (hS.sub (List.nil_sublist _)), ?_⟩
        show wpA _ _ _ _ _ _ _ _ _ _
        show wpA _ _ _ _ _ _ _ _ _ _
        refine a_step (i := 8) (is := []) (by kernel_rfl) ⟨?_, trivial⟩
        refine ⟨_, rfl, ?_⟩
        refine sapp (bytes := 80) (size := 5) (v := v28) (m := 1) hS rfl rfl Try.underlying66 ti34 rfl rfl rfl rfl (by decide) (blk_cells (hS.at _)) rfl rfl (by omega) (by omega) ?_; clear hS; intro v33 w hS
        refine nil ?_
        refine ⟨fun _ => (hS.sub (List.nil_sublist _)), ?_⟩
        show wpA _ _ _ _ _ _ _ _ _ _
        refine f_step 9 (by kernel_rfl) rfl (fun c a a' w h => by obtain ⟨_, v, hv, _⟩ := h; cases hv) (hS.sub (List.nil_sublist _)) (fun w hS => (yAsg rfl)) ?_
        refine a_end (by kernel_rfl) ?_
        exact ⟨_, rfl, _, css1 ++ [[.string g.name, .int .i64 g.err, .int .i64 g.rate, .slice ad0 g.datums.length cd0, .slice ar0 g.readings.length cr0]], rfl, rfl, rfl, (by first | (have h2 := hS.sub (.cons _ (List.Sublist.refl _)); rw [Nat.zero_add, List.nil_append] at h2; rw [flat_snoc, List.length_append]; exact h2) | (have h2 := hS.sub (.cons_cons _ (.cons _ (List.Sublist.refl _))); rw [Nat.zero_add, List.nil_append] at h2; rw [flat_snoc, List.length_append]; exact h2)), (hr1.snoc hl0 hR0), trivial⟩
    ·
      clear hS; rintro f w ⟨rv, css, h0, h3, h5, hS, hrows, -⟩
      refine seq ?_
      refine region ?_
      refine sv (yMove h0) ?_
      refine sv (fa68_0 h3) ?_
      refine sv (yLdB rfl Try.isAgg3 (hS.at _) rfl) ?_
      refine sv (fa68_1 h3) ?_
      refine sv (yLdB rfl Try.isAgg3 (hS.at _) rfl) ?_
      refine sv (fa68_2 h3) ?_
      refine sv (yLdB rfl Try.isAgg3 (hS.at _) rfl) ?_
      refine scall Try.call37 (.cons rfl (.cons rfl (.cons rfl (.cons rfl .nil)))) (c_Sound (hl.ext RGauge.stays hS.ext) hw ht hn) ?_
      rintro _ w ⟨rfl, hE⟩; replace hS := hS.step hE; clear hE
      refine sv (yMove rfl) ?_
      refine sv (yExt rfl rfl) ?_
      refine sv (yExt rfl rfl) ?_
      refine salloc hS Try.zeroValue38 rfl ?_; clear hS; intro b6 w hS
      refine sst hS rfl rfl Try.sizeOf38 rfl rfl rfl rfl ?_; clear hS; intro w hS
      refine sv (yAsg rfl) ?_
      refine nil ?_
      show Code.wp _ _ _ _ _
      refine seq ?_
      refine cutK (fun f => f 0 = .slice (some ⟨bl, ol, none⟩) (l.length + 1) cap ∧ f 3 = .pointer (some ⟨b3, 0, none⟩) ∧ f 5 = rv ∧ f 6 = .pointer (some ⟨b6, 0, none⟩) ∧ f 7 = .int .i64 (soundF (g :: l) wrong t now).2 ∧ True) ⟨h0, h3, h5, rfl, rfl, trivial⟩ ?_
      rintro f ⟨h0, h3, h5, h6, h7, -⟩
      refine region ?_
      refine sv (yMove h5) ?_
      refine sv (fa68_0 h3) ?_
      refine sv (yLdB rfl Try.isAgg3 (hS.at _) rfl) ?_
      refine sv (fa68_1 h3) ?_
      refine sv (yLdB rfl Try.isAgg3 (hS.at _) rfl) ?_
      refine sv (fa68_2 h3) ?_
      refine sv (yLdB rfl Try.isAgg3 (hS.at _) rfl) ?_
      refine scall Try.call37 (.cons rfl (.cons rfl (.cons rfl (.cons rfl .nil)))) (c_Sound (sl_of_row (hS.row rv) (hrows.ext RGauge.stays hS.ext) rfl) hw ht hn) ?_
      rintro _ w ⟨rfl, hE⟩; replace hS := hS.step hE; clear hE
      refine sv (yMove rfl) ?_
      refine sv (yExt rfl rfl) ?_
      refine sv (yExt rfl rfl) ?_
      refine salloc hS Try.zeroValue38 rfl ?_; clear hS; intro b8 w hS
      refine sst hS rfl rfl Try.sizeOf38 rfl rfl rfl rfl ?_; clear hS; intro w hS
      refine sv (yAsg rfl) ?_
      refine nil ?_
      show Code.wp _ _ _ _ _
      refine seq ?_
      refine cutK (fun f => f 0 = .slice (some ⟨bl, ol, none⟩) (l.length + 1) cap ∧ f 3 = .pointer (some ⟨b3, 0, none⟩) ∧ f 5 = rv ∧ f 6 = .pointer (some ⟨b6, 0, none⟩) ∧ f 7 = .int .i64 (soundF (g :: l) wrong t now).2 ∧ f 8 = .pointer (some ⟨b8, 0, none⟩) ∧ f 9 = .int .i64 (soundF (l ++ [g]) wrong t now).2 ∧ True) ⟨h0, h3, h5, h6, h7, rfl, rfl, trivial⟩ ?_
      rintro f ⟨h0, h3, h5, h6, h7, h8, h9, -⟩
      refine region ?_
      refine sv (yMove h0) ?_
      refine sv (fa68_1 h3) ?_
      refine sv (yLdB rfl Try.isAgg3 (hS.at _) rfl) ?_
      refine sv (fa68_2 h3) ?_
      refine sv (yLdB rfl Try.isAgg3 (hS.at _) rfl) ?_
      refine scall Try.call39 (.cons rfl (.cons rfl (.cons rfl .nil))) (c_Agree (hl.ext RGauge.stays hS.ext) ht hn) ?_
      rintro _ w ⟨ov, rfl, hM⟩; replace hS := hS.call1 hM; clear hM
      refine sv (yMove rfl) ?_
      refine sv (yExt rfl rfl) ?_
      refine sv (yExt rfl rfl) ?_
      refine sv (yExt rfl rfl) ?_
      refine sv (yAsg rfl) ?_
      refine sv (yAsg rfl) ?_
      refine sv (yAsg rfl) ?_
      refine nil ?_
      show Code.wp _ _ _ _ _
      refine seq ?_
      refine cutK (fun f => f 0 = .slice (some ⟨bl, ol, none⟩) (l.length + 1) cap ∧ f 3 = .pointer (some ⟨b3, 0, none⟩) ∧ f 5 = rv ∧ f 6 = .pointer (some ⟨b6, 0, none⟩) ∧ f 7 = .int .i64 (soundF (g :: l) wrong t now).2 ∧ f 8 = .pointer (some ⟨b8, 0, none⟩) ∧ f 9 = .int .i64 (soundF (l ++ [g]) wrong t now).2 ∧ f 10 = .int .i64 (agreeF (g :: l) t now).1 ∧ f 12 = .int .i64 (agreeF (g :: l) t now).2.2 ∧ True) ⟨h0, h3, h5, h6, h7, h8, h9, rfl, rfl, trivial⟩ ?_
      rintro f ⟨h0, h3, h5, h6, h7, h8, h9, h10, h12, -⟩
      refine region ?_
      refine sv (yMove h5) ?_
      refine sv (fa68_1 h3) ?_
      refine sv (yLdB rfl Try.isAgg3 (hS.at _) rfl) ?_
      refine sv (fa68_2 h3) ?_
      refine sv (yLdB rfl Try.isAgg3 (hS.at _) rfl) ?_
      refine scall Try.call39 (.cons rfl (.cons rfl (.cons rfl .nil))) (c_Agree (sl_of_row (hS.row rv) (hrows.ext RGauge.stays hS.ext) rfl) ht hn) ?_
      rintro _ w ⟨ow, rfl, hM⟩; replace hS := hS.call1 hM; clear hM
      refine sv (yMove rfl) ?_
      refine sv (yExt rfl rfl) ?_
      refine sv (yExt rfl rfl) ?_
      refine sv (yExt rfl rfl) ?_
      refine sv (yAsg rfl) ?_
      refine sv (yAsg rfl) ?_
      refine sv (yAsg rfl) ?_
      refine nil ?_
      show Code.wp _ _ _ _ _
      refine seq ?_
      refine cutK (fun f => f 0 = .slice (some ⟨bl, ol, none⟩) (l.length + 1) cap ∧ f 3 = .pointer (some ⟨b3, 0, none⟩) ∧ f 5 = rv ∧ f 6 = .pointer (some ⟨b6, 0, none⟩) ∧ f 7 = .int .i64 (soundF (g :: l) wrong t now).2 ∧ f 8 = .pointer (some ⟨b8, 0, none⟩) ∧ f 9 = .int .i64 (soundF (l ++ [g]) wrong t now).2 ∧ f 10 = .int .i64 (agreeF (g :: l) t now).1 ∧ f 12 = .int .i64 (agreeF (g :: l) t now).2.2 ∧ f 13 = .int .i64 (agreeF (l ++ [g]) t now).1 ∧ f 15 = .int .i64 (agreeF (l ++ [g]) t now).2.2 ∧ True) ⟨h0, h3, h5, h6, h7, h8, h9, h10, h12, rfl, rfl, trivial⟩ ?_
      rintro f ⟨h0, h3, h5, h6, h7, h8, h9, h10, h12, h13, h15, -⟩
      refine region ?_
      refine sv (yLdBA h6 Try.isAgg38 Try.sizeOf38 (hS.at _) rfl rfl) ?_
      refine sv (yLdBA h8 Try.isAgg38 Try.sizeOf38 (hS.at _) rfl rfl) ?_
      refine sv (eqS38 rfl rfl) ?_
      refine sv (yMove rfl) ?_
      refine sg rfl rfl rfl (fun g => (yMove h10)) (fun v80 g80 => ?_)
      refine sg rfl rfl rfl (fun g => (yMove h13)) (fun v81 g81 => ?_)
      refine sg rfl rfl rfl (fun g => (yEql (g80.1 g) (g81.1 g))) (fun v82 g82 => ?_)
      refine sv (yAnd rfl (fun hB => (g82.1 hB)) rfl) ?_
      refine sv (yMove rfl) ?_
      refine sg rfl rfl rfl (fun g => (yMove h7)) (fun v85 g85 => ?_)
      refine sg rfl rfl rfl (fun g => (yEql (g85.1 g) rfl)) (fun v86 g86 => ?_)
      refine sg rfl rfl rfl (fun g => (yMove h9)) (fun v87 g87 => ?_)
      refine sg rfl rfl rfl (fun g => (yEql (g87.1 g) rfl)) (fun v88 g88 => ?_)
      refine sg rfl rfl rfl (fun g => (yBEq (g86.1 g) (g88.1 g) Try.underlying4)) (fun v89 g89 => ?_)
      refine sv (yAnd rfl (fun hB => (g89.1 hB)) rfl) ?_
      refine sv (yMove rfl) ?_
      refine sg rfl rfl rfl (fun g => (yMove h12)) (fun v92 g92 => ?_)
      refine sg rfl rfl rfl (fun g => (yEql (g92.1 g) rfl)) (fun v93 g93 => ?_)
      refine sg rfl rfl rfl (fun g => (yMove h15)) (fun v94 g94 => ?_)
      refine sg rfl rfl rfl (fun g => (yEql (g94.1 g) rfl)) (fun v95 g95 => ?_)
      refine sg rfl rfl rfl (fun g => (yBEq (g93.1 g) (g95.1 g) Try.underlying4)) (fun v96 g96 => ?_)
      refine sv (yAnd rfl (fun hB => (g96.1 hB)) rfl) ?_
      refine sv (yMove rfl) ?_
      refine sgc hS rfl rfl rfl Try.call23 (fun g => .nil) (fun g => c_Awake) ?_; clear hS; intro v99 w hS g99
      refine sv (yAnd rfl (fun hB => (g99.1 hB)) rfl) ?_
      refine sv (yAsg rfl) ?_
      refine nil ?_
      show Code.wp _ _ _ _ _
      refine wp_ret ?_
      exact retV (res1 rfl (eqB (by simp [hp1.1, hp2.1, hp1.2, hp2.2]))) hS.ext
end Go.Proofs.Ytpgmehignepidaa
