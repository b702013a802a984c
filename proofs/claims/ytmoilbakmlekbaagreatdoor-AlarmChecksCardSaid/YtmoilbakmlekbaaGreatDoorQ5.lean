/- Merged texts, part 5. -/
import Derived.Test.YtmoilbakmlekbaaGreatDoorQ4
set_option linter.all false
/- part A15 -/
namespace Bx
open Go Go.RowKit
section
variable {P : Program} {ops : Array Oper} {S : List Nat} {w0 : World} {L : List Item} {n : Nat} {rest : List Oper} {f : Fr} {d : Nat} {ty : TypeId} {pos : String} {af : Array Edge} {w : World} {Q : Exit → Act → World → Prop} {ρ : Operand → Value}
theorem yFnB {g : Nat} {bl : List Operand} {vs : List Value} (h : Evs ρ bl vs) : Y P ρ (.makeFunc (.func g) bl.toArray #[]) ty w (.func (.func g) vs.toArray #[]) w := by
  unfold Evs at h
  simp [Y, xop, execOp, Instr.makeFunc, h]
theorem enter_runB {ρ : Operand → Value} {fx : Operand} {args : List Operand} {ts : Array TypeId} {g : FuncId} {vs bl : List Value} {caps : Array Value} (hf : ρ fx = .func (.func g) bl.toArray caps) (ha : Evs ρ args vs)
    (hc : ∀ ars w, (callFunc g ars).run P w = .ok (.enter g ars) w) : (xop ρ (.call ⟨.value fx, args.toArray, ts⟩) ty).run P w = .ok (.enter g ((bl ++ vs).toArray ++ caps)) w := by
  unfold Evs at ha
  simp only [xop, execOp, resolve, hf, Deferred.ofValue, Sem.run_bind, Sem.run_pure, Result.andThen_ok, invoke, hc, List.map_toArray, ha]
  simp
theorem scallfB {fx : Operand} {g : FuncId} {xs : List Operand} {ts : Array TypeId} {vs bl cl : List Value} {R : Value → World → Prop} (hf : ev n f fx = .func (.func g) bl.toArray cl.toArray) (hc : ∀ ars w, (callFunc g ars).run P w = .ok (.enter g ars) w)
    (ha : Evs (ev n f) xs vs) (hC : CE P g (bl ++ vs ++ cl).toArray w R)
    (h : ∀ v w', R v w' → wpL P ops Q n rest (upd f d v) w') : wpL P ops Q n (⟨some d, .call ⟨.value fx, xs.toArray, ts⟩, ty, pos, af, none⟩ :: rest) f w := by
  have hr := enter_runB (P := P) (ρ := ev n f) (w := w) (ty := ty) (ts := ts) hf ha hc
  rw [List.append_toArray] at hr
  exact scallV hr hC h
theorem qcallfB {K : Act → Prop} {fx : Operand} {g : FuncId} {xs : List Operand} {ts : Array TypeId} {vs bl cl : List Value} {v : Value} (hf : ev n f fx = .func (.func g) bl.toArray cl.toArray) (hc : ∀ ars w, (callFunc g ars).run P w = .ok (.enter g ars) w) (ha : Evs (ev n f) xs vs)
    (hC : ∀ w, StX S w0 w L → CV P g (bl ++ vs ++ cl).toArray w v)
    (h : wpQ P ops S w0 L K n rest (upd f d v)) : wpQ P ops S w0 L K n (⟨some d, .call ⟨.value fx, xs.toArray, ts⟩, ty, pos, af, none⟩ :: rest) f := by
  refine qcallV (fun w => ?_) hC h
  have hr := enter_runB (P := P) (ρ := ev n f) (w := w) (ty := ty) (ts := ts) hf ha hc
  rw [List.append_toArray] at hr
  exact hr
end
theorem StX.notR {S : List Nat} {w0 w : World} {v : Value} {E : TypeId} {k n : Nat} {xs : List Value} {L : List Item} (h : StX S w0 w (rowI v E k n xs :: L)) {b : Nat} (hb : b ∈ fps L) : b ∉ v.ownBlock.toList := fun hv' => by
  have := h.apart
  rw [show fps (rowI v E k n xs :: L) = v.ownBlock.toList ++ fps L from rfl, List.nodup_append] at this
  exact this.2.2 b hv' b hb rfl
theorem ExtX.oldR {w0 w w' : World} {v : Value} {L : List Item} (h : StX [] w0 w L) {Lf : Item → List Item} [j : SetR L v Lf] (e : ExtX v.ownBlock.toList w w') : Ext w0 w' := e.old h.ext fun b hb => h.owned (j.mem b (by simpa using hb))
theorem roomF_snoc (t : Task) (all : List Msg) (x : Msg) (now c : Int) : roomF t (all ++ [x]) now c = if x.channel = c ∧ x.sent = now then roomF t all now c - 1 else roomF t all now c := by
  unfold roomF; rw [usedF_snoc]
  by_cases h : x.channel = c ∧ x.sent = now
  · rw [if_pos h, if_pos h]; omega
  · rw [if_neg h, if_neg h]
theorem roomF_nil (t : Task) (now c : Int) : roomF t [] now c = (chn t c).room := by show (chn t c).room - 0 = _; omega
theorem roomF_bd {t : Task} (ht : TaskOk t) {c : Int} (hc : 0 ≤ c ∧ c < t.chans.length) (all : List Msg) (now : Int) : -(all.length : Int) ≤ roomF t all now c ∧ roomF t all now c ≤ 20 := by
  have h1 := (chan_ok ht hc).2
  have h2 := usedF_bd now c all
  unfold roomF
  omega
theorem last_step {log : List Msg} {k N : Nat} {x : Msg} (hx : log[k]? = some x) {ls : List Int} (hl : ls.length = N) (hxt : 0 ≤ x.town ∧ x.town < N) (h : ∀ j : Nat, j < N → ls[j]? = some (lastF (log.take k) (j : Int))) :
    ∀ j : Nat, j < N → (ls.set x.town.toNat x.stage)[j]? = some (lastF (log.take (k + 1)) (j : Int)) := by
  intro j hj
  rw [take_snoc hx, lastF_snoc, List.getElem?_set]
  by_cases e : x.town = (j : Int)
  · rw [if_pos (by omega), if_pos (by omega), if_pos e]
  · rw [if_neg (by omega), if_neg e]; exact h j hj
theorem room_step {t : Task} {all : List Msg} {now : Int} {x : Msg} {rs : List Int} (hl : rs.length = t.chans.length) (hxc : 0 ≤ x.channel ∧ x.channel < t.chans.length) (hs : x.sent = now) (h : ∀ j : Nat, j < t.chans.length → rs[j]? = some (roomF t all now (j : Int))) :
    ∀ j : Nat, j < t.chans.length → (rs.set x.channel.toNat (roomF t all now x.channel - 1))[j]? = some (roomF t (all ++ [x]) now (j : Int)) := by
  intro j hj
  rw [roomF_snoc, List.getElem?_set]
  by_cases e : x.channel = (j : Int)
  · rw [if_pos (by omega), if_pos (by omega), if_pos ⟨e, hs⟩, e]
  · rw [if_neg (by omega), if_neg (fun h => e h.1)]; exact h j hj
theorem room_keep {t : Task} {all : List Msg} {now : Int} {x : Msg} {rs : List Int} (hs : x.sent ≠ now) (h : ∀ j : Nat, j < t.chans.length → rs[j]? = some (roomF t all now (j : Int))) :
    ∀ j : Nat, j < t.chans.length → rs[j]? = some (roomF t (all ++ [x]) now (j : Int)) := by
  intro j hj
  rw [roomF_snoc, if_neg (fun h => hs h.2)]; exact h j hj
theorem at_i {n : Nat} {rs : List Int} {f : Int → Int} (h : ∀ j : Nat, j < n → rs[j]? = some (f (j : Int))) {c : Int} (hc : 0 ≤ c ∧ c < n) : rs[c.toNat]? = some (f c) := by
  have := h c.toNat (by omega)
  rw [show ((c.toNat : Nat) : Int) = c by omega] at this
  exact this
def upK (t : Task) (log : List Msg) (now : Int) (k : Nat) : List Int := ((idxL t).take k).filter fun i => decide (lastF log i < stageF t i now)
def downK (t : Task) (log : List Msg) (now : Int) (k : Nat) : List Int := ((idxL t).take k).filter fun i => decide (stageF t i now < lastF log i)
theorem filt_in {t : Task} {p : Int → Bool} {k : Nat} (hk : k < t.towns.length) (h : p (k : Int) = true) : ((idxL t).take (k + 1)).filter p = ((idxL t).take k).filter p ++ [(k : Int)] := by
  rw [take_snoc (idxL_get hk), List.filter_append, List.filter_cons_of_pos h, List.filter_nil]
theorem filt_out {t : Task} {p : Int → Bool} {k : Nat} (hk : k < t.towns.length) (h : p (k : Int) = false) : ((idxL t).take (k + 1)).filter p = ((idxL t).take k).filter p := by
  rw [take_snoc (idxL_get hk), List.filter_append, List.filter_cons_of_neg (by simp [h]), List.filter_nil, List.append_nil]
theorem upK_len (t : Task) (log : List Msg) (now : Int) (k : Nat) : (upK t log now k).length ≤ k := Nat.le_trans (List.length_filter_le _ _) (by simp; omega)
theorem downK_len (t : Task) (log : List Msg) (now : Int) (k : Nat) : (downK t log now k).length ≤ k := Nat.le_trans (List.length_filter_le _ _) (by simp; omega)
theorem upK_end (t : Task) (log : List Msg) (now : Int) : upK t log now t.towns.length = upL t log now := by unfold upK upL; rw [← idxL_len, List.take_length]
theorem downK_end (t : Task) (log : List Msg) (now : Int) : downK t log now t.towns.length = downL t log now := by unfold downK downL; rw [← idxL_len, List.take_length]
theorem idxL_mem {t : Task} {i : Int} (h : i ∈ idxL t) : 0 ≤ i ∧ i < t.towns.length := by
  obtain ⟨a, ha, rfl⟩ := List.mem_map.1 h
  have := List.mem_range.1 ha
  exact ⟨Int.natCast_nonneg a, by show (a : Int) < _; omega⟩
theorem upL_mem {t : Task} {log : List Msg} {now i : Int} (h : i ∈ upL t log now) : 0 ≤ i ∧ i < t.towns.length := idxL_mem (List.mem_filter.1 h).1
theorem ordL_mem {t : Task} {log : List Msg} {now i : Int} (h : i ∈ ordL t log now) : 0 ≤ i ∧ i < t.towns.length := by
  rcases List.mem_append.1 h with h | h
  · exact upL_mem ((sortV_perm _ _).mem_iff.1 h)
  · exact idxL_mem (List.mem_filter.1 h).1
theorem ordL_len (t : Task) (log : List Msg) (now : Int) : (ordL t log now).length = (upL t log now).length + (downL t log now).length := by unfold ordL; rw [List.length_append, sortV_len]
theorem chans_len {t : Task} (ht : TaskOk t) {i : Int} (hi : 0 ≤ i ∧ i < t.towns.length) : (twn t i).chans.length ≤ 4 := by
  have ho := town_ok ht hi
  have := pig (twn t i).chans (fun c => c.toNat) (List.range t.chans.length) ho.nod (fun c hc => by have := ho.chans c hc; exact List.mem_range.2 (by omega)) (fun a ha b hb h => by have := ho.chans a ha; have := ho.chans b hb; omega)
  rw [List.length_range] at this
  have := ht.nch
  omega
theorem canL_mem {t : Task} {all : List Msg} {now i c : Int} (h : c ∈ canL t all now i) : c ∈ (twn t i).chans := (List.mem_filter.1 h).1
theorem canL_len {t : Task} (ht : TaskOk t) {i : Int} (hi : 0 ≤ i ∧ i < t.towns.length) (all : List Msg) (now : Int) : (canL t all now i).length ≤ 4 := Nat.le_trans (List.length_filter_le _ _) (chans_len ht hi)
theorem step_none {t : Task} {now i : Int} {all : List Msg} (h : (canL t all now i).length = 0) : nextStep t now all i = all := by
  unfold nextStep byF
  rw [List.eq_nil_of_length_eq_zero h]; rfl
theorem step_some {t : Task} {now i c : Int} {all : List Msg} (h : (sortV (fun c => (chn t c).delay) (canL t all now i))[0]? = some c) : nextStep t now all i = all ++ [msgF t all now i c] := by
  unfold nextStep byF
  rw [List.head?_eq_getElem?, h]
theorem fold_none {t : Task} {now i : Int} {l : List Int} {k : Nat} {log all : List Msg} (hi : l[k]? = some i) (hA : (l.take k).foldl (nextStep t now) log = all) (h : nextStep t now all i = all) : (l.take (k + 1)).foldl (nextStep t now) log = all := by
  rw [take_snoc hi, List.foldl_append, hA]; exact h
theorem fold_some {t : Task} {now i : Int} {l : List Int} {k : Nat} {log out : List Msg} {m : Msg} (hi : l[k]? = some i) (hA : (l.take k).foldl (nextStep t now) log = log ++ out) (h : nextStep t now (log ++ out) i = (log ++ out) ++ [m]) : (l.take (k + 1)).foldl (nextStep t now) log = log ++ (out ++ [m]) := by
  rw [take_snoc hi, List.foldl_append, hA, ← List.append_assoc]; exact h
theorem next_end {t : Task} {log out : List Msg} {now : Int} (hA : ((ordL t log now).take (ordL t log now).length).foldl (nextStep t now) log = log ++ out) : nextF t log now = out := by
  unfold nextF allF
  rw [List.take_length] at hA
  rw [hA, List.drop_left]
theorem late_eq {log : List Msg} {z : Msg} {now : Int} (h : log[((log.length : Int) - 1).toNat]? = some z) : lateB log now = decide (now < z.sent) := by
  have h0 := (List.getElem?_eq_some_iff.1 h).1
  have h1 : log.getLast? = some z := by rw [List.getLast?_eq_getElem?, ← h]; congr 1; omega
  unfold lateB
  rw [h1, decide_eq_true (show 0 < log.length by omega), Bool.true_and]; rfl
theorem late_if {log : List Msg} {z : Msg} {now : Int} (h : (0 : Int) < log.length → log[((log.length : Int) - 1).toNat]? = some z) : lateB log now = (decide ((0 : Int) < log.length) && decide (now < z.sent)) := by
  by_cases h0 : (0 : Int) < log.length
  · rw [late_eq (h h0), decide_eq_true h0, Bool.true_and]
  · unfold lateB
    rw [decide_eq_false h0, decide_eq_false (show ¬ 0 < log.length by omega), Bool.false_and, Bool.false_and]
theorem last_at {w : World} {a : Option Addr} {cap : Nat} {log : List Msg} (hl : Sl w 5 RMsg (.slice a log.length cap) log) : ∃ z b o cs, (0 : Int) < log.length → a = some ⟨b, o, none⟩ ∧ Cells w b (o + ((log.length : Int) - 1).toNat * 5) cs ∧ cs[4]? = some (.int .i64 z.sent) ∧ log[((log.length : Int) - 1).toNat]? = some z := by
  by_cases h0 : (0 : Int) < log.length
  · obtain ⟨z, hz⟩ : ∃ z, log[((log.length : Int) - 1).toNat]? = some z := ⟨_, List.getElem?_eq_getElem (show ((log.length : Int) - 1).toNat < log.length by omega)⟩
    obtain ⟨b, o, cs, ha, -, hc, hR, -⟩ := sl_at hl hz
    obtain ⟨rfl, -⟩ := hR
    exact ⟨z, b, o, _, fun _ => ⟨ha, hc, rfl, hz⟩⟩
  · exact ⟨⟨0, 0, 0, 0, 0⟩, 0, 0, [], fun h => absurd h h0⟩
end Bx
/- part Aw14 -/
namespace Go.Proofs.YtmoilbakmlekbaaGreatDoor
open Go Bx
set_option maxHeartbeats 1000000 in
/-- slices.stableCmpFunc int  -/
theorem c_stable {l : List Int} {fk : Int → Int} {a : Option Addr} {cap g : Nat} {cl : List Value} {w0 : World} (hr : w0.ownsRow 0 3 1 (.slice a l.length cap) l.length (l.flatMap Bx.encI)) (hcall : ∀ ys w, (callFunc g ys).run Tryz.prog w = .ok (.enter g ys) w) (hp : ∀ x y w, x ∈ l → y ∈ l → ExtX (Value.slice a l.length cap).ownBlock.toList w0 w → CV Tryz.prog g (.int .i64 x :: .int .i64 y :: cl).toArray w (.int .i64 (cmpI (fk x) (fk y)))) (hlen : l.length < 20) : CE Tryz.prog 138 #[.slice a l.length cap, .int .i64 (l.length : Int), .func (.func g) #[] cl.toArray] w0 (fun u w' => u = .tuple #[] ∧ StX (Value.slice a l.length cap).ownBlock.toList w0 w' [rowI (.slice a l.length cap) 3 1 l.length ((sortV fk l).flatMap Bx.encI)]) := by
  refine enter Tryz.func138 rfl Tryz.ntmps138 rfl ?_
  have hS := StX.startR hr
  refine seq ?_
  refine region ?_
  refine sv (yAsg rfl) ?_
  refine nil ?_
  show Code.wp _ _ _ _ _
  refine seq ?_
  refine region ?_
  refine sv (yMove rfl) ?_
  refine sv (yAsg rfl) ?_
  refine sv (yAsg rfl) ?_
  refine nil ?_
  show Code.wp _ _ _ _ _
  refine seq ?_
  refine block ?_
  refine loop (fun f w zz => f 0 = .slice a l.length cap ∧ f 1 = .int .i64 (l.length : Int) ∧ f 2 = .func (.func g) #[] cl.toArray ∧ f 6 = .int .i64 20 ∧ f 7 = .int .i64 0 ∧ f 8 = .int .i64 20 ∧ StX (Value.slice a l.length cap).ownBlock.toList w0 w ([rowI (.slice a l.length cap) 3 1 l.length ((l).flatMap Bx.encI)]) ∧ zz = 0) _ ⟨_, rfl, rfl, rfl, rfl, rfl, rfl, rfl, hS, rfl⟩ ?_
  clear hS
  rintro f w _ ⟨h0, h1, h2, h6, h7, h8, hS, rfl⟩
  refine seq ?_
  refine seq ?_
  refine region ?_
  refine sv (yMove h8) ?_
  refine sv (yMove h1) ?_
  refine sv (yLeq rfl rfl) ?_
  refine nil ?_
  show Code.wp _ _ _ _ _
  refine cond rfl (fun c13 => ?_) (fun c13 => ?_)
  ·
    simp only [Bool.and_eq_true, Bool.or_eq_true, Bool.and_eq_false_iff, Bool.or_eq_false_iff, decide_eq_true_eq, decide_eq_false_iff_not, Bool.not_eq_true, Bool.not_eq_false, Bool.not_not, Bool.not_eq_eq_eq_not, Bool.not_true, Bool.not_false, Bool.false_eq_true, Bool.true_eq_false, ne_eq, Decidable.not_not, not_false_eq_true, not_true_eq_false] at c13
    exfalso; omega
  ·
    simp only [Bool.and_eq_true, Bool.or_eq_true, Bool.and_eq_false_iff, Bool.or_eq_false_iff, decide_eq_true_eq, decide_eq_false_iff_not, Bool.not_eq_true, Bool.not_eq_false, Bool.not_not, Bool.not_eq_eq_eq_not, Bool.not_true, Bool.not_false, Bool.false_eq_true, Bool.true_eq_false, ne_eq, Decidable.not_not, not_false_eq_true, not_true_eq_false] at c13
    refine exit ?_
    show Code.wp _ _ _ _ _
    refine seq ?_
    refine region ?_
    refine sv (yMove h0) ?_
    refine sv (yMove h7) ?_
    refine sv (yMove h1) ?_
    refine sv (yMove h2) ?_
    refine scall Tryz.call156 (.cons rfl (.cons rfl (.cons rfl (.cons rfl .nil)))) (c_insSort (hS.row (.slice a l.length cap)) hcall (fun x y w hx hy e => hp x y w hx hy (hS.extx.trans2 e)) (by omega)) ?_
    rintro _ w ⟨rfl, hM⟩
    replace hS := hS.app (v := .slice a l.length cap) (v' := .slice a l.length cap) (hM.row _) hM.grown (.inl rfl)
    clear hM
    refine nil ?_
    show Code.wp _ _ _ _ _
    refine block ?_
    refine loop (fun f w zz => f 0 = .slice a l.length cap ∧ f 1 = .int .i64 (l.length : Int) ∧ f 2 = .func (.func g) #[] cl.toArray ∧ f 6 = .int .i64 20 ∧ StX (Value.slice a l.length cap).ownBlock.toList w0 w ([rowI (.slice a l.length cap) 3 1 l.length ((sortV fk l).flatMap Bx.encI)]) ∧ zz = 0) _ ⟨_, rfl, h0, h1, h2, h6, hS, rfl⟩ ?_
    clear hS
    rintro f w _ ⟨h0, h1, h2, h6, hS, rfl⟩
    refine seq ?_
    refine seq ?_
    refine region ?_
    refine sv (yMove h6) ?_
    refine sv (yMove h1) ?_
    refine sv (yLss rfl rfl) ?_
    refine nil ?_
    show Code.wp _ _ _ _ _
    refine cond rfl (fun c30 => ?_) (fun c30 => ?_)
    ·
      simp only [Bool.and_eq_true, Bool.or_eq_true, Bool.and_eq_false_iff, Bool.or_eq_false_iff, decide_eq_true_eq, decide_eq_false_iff_not, Bool.not_eq_true, Bool.not_eq_false, Bool.not_not, Bool.not_eq_eq_eq_not, Bool.not_true, Bool.not_false, Bool.false_eq_true, Bool.true_eq_false, ne_eq, Decidable.not_not, not_false_eq_true, not_true_eq_false] at c30
      exfalso; omega
    ·
      simp only [Bool.and_eq_true, Bool.or_eq_true, Bool.and_eq_false_iff, Bool.or_eq_false_iff, decide_eq_true_eq, decide_eq_false_iff_not, Bool.not_eq_true, Bool.not_eq_false, Bool.not_not, Bool.not_eq_eq_eq_not, Bool.not_true, Bool.not_false, Bool.false_eq_true, Bool.true_eq_false, ne_eq, Decidable.not_not, not_false_eq_true, not_true_eq_false] at c30
      refine exit ?_
      refine thenOut ?_
      refine thenOut ?_
      refine blockIn ?_
      show bodyPost _ _ _ .normal _ _
      refine retN (results_none rfl _ _ _) ?_
      exact ⟨rfl, hS⟩
/-- slices.SortStableFunc   int,int  -/
theorem c_SortStable {l : List Int} {fk : Int → Int} {a : Option Addr} {cap g : Nat} {cl : List Value} {w0 : World} (hr : w0.ownsRow 0 3 1 (.slice a l.length cap) l.length (l.flatMap Bx.encI)) (hcall : ∀ ys w, (callFunc g ys).run Tryz.prog w = .ok (.enter g ys) w) (hp : ∀ x y w, x ∈ l → y ∈ l → ExtX (Value.slice a l.length cap).ownBlock.toList w0 w → CV Tryz.prog g (.int .i64 x :: .int .i64 y :: cl).toArray w (.int .i64 (cmpI (fk x) (fk y)))) (hlen : l.length < 20) : CE Tryz.prog 117 #[.slice a l.length cap, .func (.func g) #[] cl.toArray] w0 (fun u w' => u = .tuple #[] ∧ StX (Value.slice a l.length cap).ownBlock.toList w0 w' [rowI (.slice a l.length cap) 3 1 l.length ((sortV fk l).flatMap Bx.encI)]) := by
  refine enter Tryz.func117 rfl Tryz.ntmps117 rfl ?_
  have hS := StX.startR hr
  refine region ?_
  refine sv (yMove rfl) ?_
  refine sv (yMove rfl) ?_
  refine sv (yLen rfl Tryz.underlying34) ?_
  refine sv (yMove rfl) ?_
  refine scall Tryz.call138 (.cons rfl (.cons rfl (.cons rfl .nil))) (c_stable (hS.row (.slice a l.length cap)) hcall (fun x y w hx hy e => hp x y w hx hy (hS.extx.trans2 e)) hlen) ?_
  rintro _ w ⟨rfl, hM⟩
  replace hS := hS.app (v := .slice a l.length cap) (v' := .slice a l.length cap) (hM.row _) hM.grown (.inl rfl)
  clear hM
  refine nil ?_
  show bodyPost _ _ _ .normal _ _
  refine retN (results_none rfl _ _ _) ?_
  exact ⟨rfl, hS⟩
/-- barrage/alarm.sorted int,int  closure 1 -/
theorem c_sorted1 {x y u v : Int} {gk b : Nat} {bk ck : List Value} {T : TypeId} {w0 : World} (hb : w0.heap[b]? = some (.cells [.func (.func gk) bk.toArray ck.toArray].toArray T (0, 0))) (hcall : ∀ ys w, (callFunc gk ys).run Tryz.prog w = .ok (.enter gk ys) w) (h1 : ∀ w, Ext w0 w → CV Tryz.prog gk (bk ++ [Value.int .i64 x] ++ ck).toArray w (.int .i64 u)) (h2 : ∀ w, Ext w0 w → CV Tryz.prog gk (bk ++ [Value.int .i64 y] ++ ck).toArray w (.int .i64 v)) : CV Tryz.prog 118 #[.int .i64 x, .int .i64 y, .pointer (some ⟨b, 0, none⟩)] w0 (.int .i64 (cmpI u v)) := by
  refine enter Tryz.func118 rfl Tryz.ntmps118 rfl ?_
  have hS := St.start w0
  refine seq ?_
  refine region ?_
  refine sv (yAsg rfl) ?_
  refine nil ?_
  show Code.wp _ _ _ _ _
  refine seq ?_
  refine region_draw mixed (by kernel_rfl) hS ?_
  refine qv (fun w hS => (yLdB rfl Tryz.isAgg147 (hS.ext.get hb) rfl)) ?_
  refine qv (fun w hS => (yMove rfl)) ?_
  refine qcallfB rfl hcall (.cons rfl .nil) (fun w hS => (h1 _ hS.ext)) ?_
  refine qv (fun w hS => (yLdB rfl Tryz.isAgg147 (hS.ext.get hb) rfl)) ?_
  refine qv (fun w hS => (yMove rfl)) ?_
  refine qcallfB rfl hcall (.cons rfl .nil) (fun w hS => (h2 _ hS.ext)) ?_
  refine qcall Tryz.call119 (.cons rfl (.cons rfl .nil)) (fun w hS => c_cmp) ?_
  refine qv (fun w hS => (yAsg rfl)) ?_
  clear hS; refine qnil (fun w hS => ?_)
  show Code.wp _ _ _ _ _
  refine wp_ret ?_
  exact retV (res1 rfl rfl) hS.ext
/-- barrage/alarm.sorted int,int  -/
theorem c_sorted {l : List Int} {fk : Int → Int} {a : Option Addr} {cap gk : Nat} {bk ck : List Value} {w0 : World} (hr : w0.ownsRow 0 3 1 (.slice a l.length cap) l.length (l.flatMap Bx.encI)) (hcall : ∀ ys w, (callFunc gk ys).run Tryz.prog w = .ok (.enter gk ys) w) (hk : ∀ x w, x ∈ l → ExtX (Value.slice a l.length cap).ownBlock.toList w0 w → CV Tryz.prog gk (bk ++ [Value.int .i64 x] ++ ck).toArray w (.int .i64 (fk x))) (hlen : l.length < 20) : CE Tryz.prog 75 #[.slice a l.length cap, .func (.func gk) bk.toArray ck.toArray] w0 (fun u w' => u = .slice a l.length cap ∧ StX (Value.slice a l.length cap).ownBlock.toList w0 w' [rowI (.slice a l.length cap) 3 1 l.length ((sortV fk l).flatMap Bx.encI)]) := by
  refine enter Tryz.func75 rfl Tryz.ntmps75 rfl ?_
  have hS := StX.startR hr
  refine seq ?_
  refine region ?_
  refine sbox hS rfl rfl ?_; clear hS; intro b3 w hS
  refine sv (yAsg rfl) ?_
  refine nil ?_
  show Code.wp _ _ _ _ _
  refine seq ?_
  refine region ?_
  refine sv (yMove rfl) ?_
  refine sv (yFn (.cons rfl .nil)) ?_
  have hno := notOwn hS
  refine scall Tryz.call117 (.cons rfl (.cons rfl .nil)) (c_SortStable (hS.row (.slice a l.length cap)) Tryz.call118 (fun x y w hx hy e => c_sorted1 (e.get (hS.at b3) hno) hcall (fun w2 e2 => hk x w2 hx ((hS.extx.trans2 e).trans e2)) (fun w2 e2 => hk y w2 hy ((hS.extx.trans2 e).trans e2))) hlen) ?_
  rintro _ w ⟨rfl, hM⟩
  replace hS := hS.app (v := .slice a l.length cap) (v' := .slice a l.length cap) (hM.row _) hM.grown (.inl rfl)
  clear hM
  refine nil ?_
  show Code.wp _ _ _ _ _
  refine seq ?_
  refine region ?_
  refine sv (yMove rfl) ?_
  refine sv (yAsg rfl) ?_
  refine nil ?_
  show Code.wp _ _ _ _ _
  refine wp_ret ?_
  refine retQ (res1 rfl rfl) ?_
  exact ⟨rfl, hS.sub (.cons _ (List.Sublist.refl _))⟩
/-- slices.Clone   int,int  -/
theorem c_CloneI {l : List Int} {a : Option Addr} {cap : Nat} {w0 : World} (hsl : Sl w0 1 RInt (.slice a l.length cap) l) (hlen : l.length ≤ 1000) : CE Tryz.prog 86 #[.slice a l.length cap] w0 (fun u w' => St w0 w' [rowI u 3 1 l.length (l.flatMap Bx.encI)]) := by
  refine enter Tryz.func86 rfl Tryz.ntmps86 rfl ?_
  have hS := St.start w0
  refine seq ?_
  refine region ?_
  refine sv (yAsg rfl) ?_
  refine nil ?_
  show Code.wp _ _ _ _ _
  refine seq ?_
  refine seq ?_
  refine region ?_
  refine sv (yMove rfl) ?_
  refine sv (yEqNil rfl rfl Tryz.underlying34) ?_
  refine nil ?_
  show Code.wp _ _ _ _ _
  refine cond rfl (fun c4 => ?_) (fun c4 => ?_)
  ·
    obtain rfl : a = none := by cases a with | none => rfl | some _ => cases c4
    obtain rfl := sl_nil_of hsl
    refine seq ?_
    refine region ?_
    refine sv (yAsg rfl) ?_
    refine nil ?_
    show Code.wp _ _ _ _ _
    refine wp_ret (thenR ?_)
    refine retQ (res1 rfl rfl) ?_
    exact hS.nilrow 3 1
  ·
    refine skip ?_
    show Code.wp _ _ _ _ _
    refine seq ?_
    refine region ?_
    refine sbslice0 hS Tryz.underlying34 Tryz.sizeOf3 ?_; clear hS; intro b5 w hS
    refine sv (yMove rfl) ?_
    refine sappS (bytes := 8) (size := 1) hS rfl rfl Tryz.underlying34 ti3 rfl rfl rfl rfl (by decide) Tryz.sizeOf3 (fun hh => by obtain ⟨bd, od, e1, e2⟩ := ints_news hsl hh; exact ⟨bd, od, e1, e2.ext hS.ext⟩) (by rw [flat_len encI_len]) (ints_one l) (by omega) (by omega) ?_; clear hS; intro v7 w hS; rw [Nat.zero_add, List.nil_append] at hS
    refine sv (yAsg rfl) ?_
    refine nil ?_
    show Code.wp _ _ _ _ _
    refine wp_ret ?_
    refine retQ (res1 rfl rfl) ?_
    exact hS
set_option maxHeartbeats 2000000 in
/-- slices.DeleteFunc   int,int  -/
theorem c_DeleteI {l : List Int} {p : Int → Bool} {a : Option Addr} {cap g : Nat} {cl : List Value} {w0 : World} (hr : w0.ownsRow 0 3 1 (.slice a l.length cap) l.length (l.flatMap Bx.encI)) (hcall : ∀ ys w, (callFunc g ys).run Tryz.prog w = .ok (.enter g ys) w) (hp : ∀ x w, x ∈ l → ExtX (Value.slice a l.length cap).ownBlock.toList w0 w → CV Tryz.prog g (.int .i64 x :: cl).toArray w (.bool (p x))) (hI : ∀ x ∈ l, I64 x) (hlen : l.length ≤ 1000) : CE Tryz.prog 85 #[.slice a l.length cap, .func (.func g) #[] cl.toArray] w0 (fun u w' => u = .slice a (l.filter fun x => !p x).length cap ∧ StX (Value.slice a l.length cap).ownBlock.toList w0 w' [rowI (.slice a (l.filter fun x => !p x).length cap) 3 1 (l.filter fun x => !p x).length ((l.filter fun x => !p x).flatMap Bx.encI)]) := by
  refine enter Tryz.func85 rfl Tryz.ntmps85 rfl ?_
  have hS := StX.startR hr
  refine seq ?_
  refine region ?_
  refine sv (yAsg rfl) ?_
  refine nil ?_
  show Code.wp _ _ _ _ _
  refine seq ?_
  refine region ?_
  refine sv (yMove rfl) ?_
  refine sv (yMove rfl) ?_
  refine scall Tryz.call111 (.cons rfl (.cons rfl .nil)) (c_IndexFuncInt (sl_ints (hS.row (.slice a l.length cap)) rfl hI) hcall (fun x cs w hx e _ => hp x w hx (hS.extx.trans e))) ?_
  rintro _ w ⟨rfl, hE⟩; replace hS := hS.step hE; clear hE
  have hix := idxF_spec p l 0 (Int.le_refl 0)
  generalize idxF p l 0 = ix at hix ⊢
  refine sv (yAsg rfl) ?_
  refine nil ?_
  show Code.wp _ _ _ _ _
  refine seq ?_
  refine seq ?_
  refine region ?_
  refine sv (yMove rfl) ?_
  refine sv (yEql rfl rfl) ?_
  refine nil ?_
  show Code.wp _ _ _ _ _
  refine cond rfl (fun c12 => ?_) (fun c12 => ?_)
  ·
    simp only [Bool.and_eq_true, Bool.or_eq_true, Bool.and_eq_false_iff, Bool.or_eq_false_iff, decide_eq_true_eq, decide_eq_false_iff_not, Bool.not_eq_true, Bool.not_eq_false, Bool.not_not, Bool.not_eq_eq_eq_not, Bool.not_true, Bool.not_false, Bool.false_eq_true, Bool.true_eq_false, ne_eq, Decidable.not_not, not_false_eq_true, not_true_eq_false] at c12
    have hfl : (l.filter fun x => !p x) = l := by
      rcases hix with ⟨-, h⟩ | ⟨k, -, h, -⟩
      · exact h
      · omega
    refine seq ?_
    refine region ?_
    refine sv (yMove rfl) ?_
    refine sv (yAsg rfl) ?_
    refine nil ?_
    show Code.wp _ _ _ _ _
    refine wp_ret (thenR ?_)
    refine retQ (res1 rfl rfl) ?_
    rw [hfl]
    exact ⟨rfl, hS⟩
  ·
    simp only [Bool.and_eq_true, Bool.or_eq_true, Bool.and_eq_false_iff, Bool.or_eq_false_iff, decide_eq_true_eq, decide_eq_false_iff_not, Bool.not_eq_true, Bool.not_eq_false, Bool.not_not, Bool.not_eq_eq_eq_not, Bool.not_true, Bool.not_false, Bool.false_eq_true, Bool.true_eq_false, ne_eq, Decidable.not_not, not_false_eq_true, not_true_eq_false] at c12
    obtain ⟨i0, hi0, hie, hi1, z, hz, hpz⟩ := hix.resolve_left (fun h => c12 h.1)
    obtain ⟨gb, rfl, -⟩ := row_get (hS.row (.slice a l.length cap)) (by omega)
    obtain rfl : ix = (i0 : Int) := by omega
    have hcap : l.length ≤ cap := by
      obtain ⟨g2, c2, e2, h2, -⟩ := row_some (hS.row (.slice (some ⟨gb, 0, none⟩) l.length cap)) (by omega)
      obtain ⟨-, rfl⟩ := slice_inj e2
      exact h2
    refine skip ?_
    show Code.wp _ _ _ _ _
    refine seq ?_
    refine seq ?_
    refine region ?_
    refine sv (yMove rfl) ?_
    refine sv (yAdd rfl rfl ⟨by omega, by omega⟩) ?_
    refine sv (yAsg rfl) ?_
    refine nil ?_
    show Code.wp _ _ _ _ _
    refine block ?_
    have htl : (l.take i0).length = i0 := by simp; omega
    refine loop (fun f w zz => ∃ (ks js : List Int) (j : Nat), f 0 = .slice (some ⟨gb, 0, none⟩) l.length cap ∧ f 1 = .func (.func g) #[] cl.toArray ∧ f 5 = .int .i64 (ks.length : Int) ∧ f 6 = .int .i64 (j : Int) ∧ StX (Value.slice (some ⟨gb, 0, none⟩) l.length cap).ownBlock.toList w0 w ([rowI (.slice (some ⟨gb, 0, none⟩) l.length cap) 3 1 l.length ((ks ++ js ++ l.drop j).flatMap Bx.encI)]) ∧ (j ≤ l.length) ∧ (ks.length + js.length = j) ∧ (js ≠ []) ∧ ((l.filter fun x => !p x) = ks ++ (l.drop j).filter fun x => !p x) ∧ zz = l.length - j) _ ⟨_, rfl, l.take i0, [z], i0 + 1, rfl, rfl, (by rw [htl]; exact rfl), rfl, (by rw [cut_at hz]; exact hS), (by omega), (by rw [htl]; rfl), (by simp), (filter_at hz hi1 hpz), rfl⟩ ?_
    clear hS
    rintro f w _ ⟨ks, js, j, h0, h1, h5, h6, hS, hj, hl, hne, hF, rfl⟩
    refine seq ?_
    refine seq ?_
    refine region ?_
    refine sv (yMove h6) ?_
    refine sv (yMove h0) ?_
    refine sv (yLen rfl Tryz.underlying34) ?_
    refine sv (yLss rfl rfl) ?_
    refine nil ?_
    show Code.wp _ _ _ _ _
    refine cond rfl (fun c19 => ?_) (fun c19 => ?_)
    ·
      simp only [Bool.and_eq_true, Bool.or_eq_true, Bool.and_eq_false_iff, Bool.or_eq_false_iff, decide_eq_true_eq, decide_eq_false_iff_not, Bool.not_eq_true, Bool.not_eq_false, Bool.not_not, Bool.not_eq_eq_eq_not, Bool.not_true, Bool.not_false, Bool.false_eq_true, Bool.true_eq_false, ne_eq, Decidable.not_not, not_false_eq_true, not_true_eq_false] at c19
      obtain ⟨x, hx, hd⟩ := drop_of (l := l) (k := j) (by omega)
      refine skip ?_
      show Code.wp _ _ _ _ _
      refine seq ?_
      refine block ?_
      refine seq ?_
      refine region ?_
      refine sv (yMove h0) ?_
      refine sv (yMove h6) ?_
      refine sv (yIx0 rfl rfl Tryz.runUnderlying34 Tryz.sizeOf3 (by omega)) ?_
      refine sv (yLd rfl Tryz.isAgg3 ((flat_cells0 (enc := Bx.encI) encI_len (row_at (hS.row (.slice (some ⟨gb, 0, none⟩) l.length cap)) rfl (by omega)) (mid_get hl hx)).one)) ?_
      refine sv (yAsg rfl) ?_
      refine nil ?_
      show Code.wp _ _ _ _ _
      refine seq ?_
      refine region ?_
      refine sv (yMove h1) ?_
      refine sv (yMove rfl) ?_
      refine scallf rfl hcall (.cons rfl .nil) (hp x _ (List.mem_of_getElem? hx) hS.extx) ?_
      rintro _ w ⟨rfl, hE⟩; replace hS := hS.step hE; clear hE
      refine sv (yNot rfl) ?_
      refine nil ?_
      show Code.wp _ _ _ _ _
      refine cond rfl (fun c29 => ?_) (fun c29 => ?_)
      ·
        simp only [Bool.not_eq_true', Bool.not_eq_false', Bool.not_eq_true, Bool.not_eq_false] at c29
        refine seq ?_
        refine region ?_
        refine sv (yMove h0) ?_
        refine sv (yMove h5) ?_
        refine sv (yMove rfl) ?_
        refine sv (yIx0 rfl rfl Tryz.runUnderlying34 Tryz.sizeOf3 (by have := List.length_pos_iff.2 hne; omega)) ?_
        refine srst (m := l.length) (cap := cap) (sz := 1) hS rfl rfl Tryz.sizeOf3 rfl rfl (by have := List.length_pos_iff.2 hne; omega) rfl ?_; clear hS; intro w hS
        refine nil ?_
        show Code.wp _ _ _ _ _
        refine region ?_
        refine sv (yMove h5) ?_
        refine sv (yAdd rfl rfl ⟨by omega, by omega⟩) ?_
        refine sv (yAsg rfl) ?_
        refine nil ?_
        show Code.wp _ _ _ _ _
        refine region ?_
        refine sv (yMove h6) ?_
        refine sv (yAdd rfl rfl ⟨by omega, by omega⟩) ?_
        refine sv (yAsg rfl) ?_
        refine nil ?_
        exact ⟨_, _, rfl, ⟨ks ++ [x], js.tail ++ [x], j + 1, h0, h1, (by rw [List.length_append]; exact rfl), rfl, (by rw [gap_outI hx hne]; exact hS), (by omega), (by simp; have := List.length_pos_iff.2 hne; omega), (by simp), (by rw [hF, hd, List.filter_cons_of_pos (by simpa using c29)]; simp), rfl⟩, by omega⟩
      ·
        simp only [Bool.not_eq_true', Bool.not_eq_false', Bool.not_eq_true, Bool.not_eq_false] at c29
        refine skip ?_
        show Code.wp _ _ _ _ _
        refine region ?_
        refine sv (yMove h6) ?_
        refine sv (yAdd rfl rfl ⟨by omega, by omega⟩) ?_
        refine sv (yAsg rfl) ?_
        refine nil ?_
        exact ⟨_, _, rfl, ⟨ks, js ++ [x], j + 1, h0, h1, h5, rfl, (by rw [gap_in hx]; exact hS), (by omega), (by simp; omega), (by simp), (by rw [hF, hd, List.filter_cons_of_neg (by simp [c29])]), rfl⟩, by omega⟩
    ·
      simp only [Bool.and_eq_true, Bool.or_eq_true, Bool.and_eq_false_iff, Bool.or_eq_false_iff, decide_eq_true_eq, decide_eq_false_iff_not, Bool.not_eq_true, Bool.not_eq_false, Bool.not_not, Bool.not_eq_eq_eq_not, Bool.not_true, Bool.not_false, Bool.false_eq_true, Bool.true_eq_false, ne_eq, Decidable.not_not, not_false_eq_true, not_true_eq_false] at c19
      obtain rfl : j = l.length := by omega
      rw [List.drop_length] at hF
      have hfin : (l.filter fun x => !p x) = ks := by rw [hF]; simp
      refine exit ?_
      show Code.wp _ _ _ _ _
      refine seq ?_
      refine region ?_
      refine sv (yMove h0) ?_
      refine sv (yMove h5) ?_
      refine sv (yTail rfl rfl Tryz.underlying34 Tryz.sizeOf3 (by omega)) ?_
      refine sclear (i := ks.length) (m := l.length) hS rfl Tryz.underlying34 Tryz.zeroValue3 rfl (by decide) (by decide) (by omega) ?_; clear hS; intro w hS
      refine nil ?_
      show Code.wp _ _ _ _ _
      refine seq ?_
      refine region ?_
      refine sv (yMove h0) ?_
      refine sv (yMove h5) ?_
      refine sv (yHead ⟨_, rfl⟩ rfl rfl Tryz.underlying34 Tryz.sizeOf3 (by omega)) ?_
      refine sv (yAsg rfl) ?_
      refine nil ?_
      show Code.wp _ _ _ _ _
      refine wp_ret ?_
      refine retQ (res1 rfl rfl) ?_
      rw [hfin]
      rw [List.append_assoc, take_flatI] at hS
      exact ⟨rfl, hS⟩
end Go.Proofs.YtmoilbakmlekbaaGreatDoor
/- part Aw15 -/
namespace Go.Proofs.YtmoilbakmlekbaaGreatDoor
open Go Bx
set_option maxHeartbeats 2000000 in
/-- (*barrage/alarm.board).wrong -/
theorem c_wrong {t : Task} {log : List Msg} {b : Nat} {lv : Value} {w0 : World} (hB : RBoard w0 b t) (hl : Sl w0 5 RMsg lv log) : CV Tryz.prog 81 #[.pointer (some ⟨b, 0, none⟩), lv] w0 (.int .i64 (wrongF t log)) := by
  obtain ⟨al, cl, rfl, hlcap, hlmx, hlel⟩ := id hl
  obtain ⟨a1, c1, a2, c2, a3, c3, a4, c4, a5, c5, T, hb, s1, s2, s3, s4, s5, hok⟩ := id hB.opn
  have hn8 := hok.ntw
  have hf8 := hok.nfl
  have hc4 := hok.nch
  refine enter Tryz.func81 rfl Tryz.ntmps81 rfl ?_
  have hS := St.start w0
  refine seq ?_
  refine region ?_
  refine sv (yAsg rfl) ?_
  refine nil ?_
  show Code.wp _ _ _ _ _
  refine seq ?_
  refine seq ?_
  refine region ?_
  refine sv (yMove rfl) ?_
  refine sv (yLen rfl Tryz.underlying62) ?_
  refine sv (yGtr rfl rfl) ?_
  refine nil ?_
  show Code.wp _ _ _ _ _
  refine cond rfl (fun c10 => ?_) (fun c10 => ?_)
  ·
    simp only [Bool.and_eq_true, Bool.or_eq_true, Bool.and_eq_false_iff, Bool.or_eq_false_iff, decide_eq_true_eq, decide_eq_false_iff_not, Bool.not_eq_true, Bool.not_eq_false, Bool.not_not, Bool.not_eq_eq_eq_not, Bool.not_true, Bool.not_false, Bool.false_eq_true, Bool.true_eq_false, ne_eq, Decidable.not_not, not_false_eq_true, not_true_eq_false] at c10
    refine seq ?_
    refine region ?_
    refine sv (yAsg rfl) ?_
    refine nil ?_
    show Code.wp _ _ _ _ _
    refine wp_ret (thenR ?_)
    exact retV (res1 rfl (eqI (by unfold wrongF; rw [if_pos c10]))) hS.ext
  ·
    simp only [Bool.and_eq_true, Bool.or_eq_true, Bool.and_eq_false_iff, Bool.or_eq_false_iff, decide_eq_true_eq, decide_eq_false_iff_not, Bool.not_eq_true, Bool.not_eq_false, Bool.not_not, Bool.not_eq_eq_eq_not, Bool.not_true, Bool.not_false, Bool.false_eq_true, Bool.true_eq_false, ne_eq, Decidable.not_not, not_false_eq_true, not_true_eq_false] at c10
    have hl200 : log.length ≤ 200 := by omega
    refine skip ?_
    show Code.wp _ _ _ _ _
    refine seq ?_
    refine region ?_
    refine sv (yAsg rfl) ?_
    refine nil ?_
    show Code.wp _ _ _ _ _
    refine seq ?_
    refine seq ?_
    refine region ?_
    refine sv (yMove rfl) ?_
    refine sv (yLen rfl Tryz.underlying62) ?_
    refine sv (yMove rfl) ?_
    refine nil ?_
    show Code.wp _ _ _ _ _
    refine block ?_
    refine loop (fun f w zz => ∃ (k : Nat) (be : Int), f 0 = .pointer (some ⟨b, 0, none⟩) ∧ f 5 = .int .i64 be ∧ f 11 = .slice al log.length cl ∧ f 12 = .int .i64 (log.length : Int) ∧ f 13 = .int .i64 (k : Int) ∧ StX [] w0 w [] ∧ (k ≤ log.length) ∧ (wrongL t log 0 0 = wrongL t (log.drop k) k be) ∧ zz = log.length - k) _ ⟨_, rfl, 0, 0, rfl, rfl, rfl, rfl, rfl, hS, (Nat.zero_le _), (rfl), rfl⟩ ?_
    clear hS
    rintro f w _ ⟨k, be, h0, h5, h11, h12, h13, hS, hk, hI, rfl⟩
    refine seq ?_
    refine region ?_
    refine sv (yLss h13 h12) ?_
    refine nil ?_
    show Code.wp _ _ _ _ _
    refine seq ?_
    refine cond rfl (fun c14 => ?_) (fun c14 => ?_)
    ·
      simp only [Bool.and_eq_true, Bool.or_eq_true, Bool.and_eq_false_iff, Bool.or_eq_false_iff, decide_eq_true_eq, decide_eq_false_iff_not, Bool.not_eq_true, Bool.not_eq_false, Bool.not_not, Bool.not_eq_eq_eq_not, Bool.not_true, Bool.not_false, Bool.false_eq_true, Bool.true_eq_false, ne_eq, Decidable.not_not, not_false_eq_true, not_true_eq_false] at c14
      obtain ⟨x, hxx, hdx⟩ := drop_of (l := log) (k := k) (by omega)
      obtain ⟨bx, ox, csx, hax, hlenx, hcsx, hRx⟩ := hlel (k) (by omega)
      obtain rfl : x = log[k] := (List.getElem?_eq_some_iff.1 hxx).2.symm
      generalize log[k] = x at hxx hdx hRx
      obtain ⟨rfl, hx1, hx2, hx3, hx4, hx5⟩ := hRx
      refine skip ?_
      show Code.wp _ _ _ _ _
      refine seq ?_
      refine block ?_
      refine seq ?_
      refine region ?_
      refine sv (yMove h13) ?_
      refine sv (yIxa h11 hax h13 Tryz.runUnderlying62 Tryz.sizeOf70 (by omega) (by omega)) ?_
      refine sv (yLdA rfl Tryz.isAgg70 Tryz.sizeOf70 (hcsx.ext hS.ext) rfl) ?_
      refine salloc hS Tryz.zeroValue70 rfl ?_; clear hS; intro b7 w hS
      refine sv (yAsg rfl) ?_
      refine sst hS rfl rfl Tryz.sizeOf70 rfl rfl rfl rfl ?_; clear hS; intro w hS
      refine nil ?_
      show Code.wp _ _ _ _ _
      refine seq ?_
      refine seq ?_
      refine region_draw mixed (by kernel_rfl) hS ?_
      refine qv (fun w hS => (fa70_0 rfl)) ?_
      refine qv (fun w hS => (yLdB rfl Tryz.isAgg3 (hS.at _) rfl)) ?_
      refine qv (fun w hS => (yMove rfl)) ?_
      refine qv (fun w hS => (yAdd rfl rfl ⟨by omega, by omega⟩)) ?_
      refine qv (fun w hS => (yNeq rfl rfl)) ?_
      refine qv (fun w hS => (yMove rfl)) ?_
      refine qg rfl rfl rfl (fun g w hS => (fa70_1 rfl)) (fun v24 g24 => ?_)
      refine qg rfl rfl rfl (fun g w hS => (yLdB (g24.1 g) Tryz.isAgg3 (hS.at _) rfl)) (fun v25 g25 => ?_)
      refine qg rfl rfl rfl (fun g w hS => (yMove h0)) (fun v26 g26 => ?_)
      refine qg rfl rfl rfl (fun g w hS => (yNil (g26.1 g))) (fun v27 g27 => ?_)
      refine qg rfl rfl rfl (fun g w hS => (fa141_0 (g27.1 g))) (fun v28 g28 => ?_)
      refine qg rfl rfl rfl (fun g w hS => (fa26_2 (g28.1 g))) (fun v29 g29 => ?_)
      refine qg rfl rfl rfl (fun g w hS => (yLdB (g29.1 g) Tryz.isAgg23 (hS.ext.get hb) rfl)) (fun v30 g30 => ?_)
      refine qg rfl rfl rfl (fun g w hS => (yLen (g30.1 g) Tryz.underlying23)) (fun v31 g31 => ?_)
      refine qg rfl rfl rfl (fun g w hS => (ySub (g31.1 g) rfl ⟨by omega, by omega⟩)) (fun v32 g32 => ?_)
      refine qgc rfl rfl rfl Tryz.call52 (fun g => (.cons (g25.1 g) (.cons rfl (.cons (g32.1 g) .nil)))) (fun g w hS => c_out) (fun v33 g33 => ?_)
      refine qv (fun w hS => (yOr rfl rfl (fun hB => (g33.1 hB)))) ?_
      refine qv (fun w hS => (yMove rfl)) ?_
      refine qg rfl rfl rfl (fun g w hS => (fa70_2 rfl)) (fun v36 g36 => ?_)
      refine qg rfl rfl rfl (fun g w hS => (yLdB (g36.1 g) Tryz.isAgg3 (hS.at _) rfl)) (fun v37 g37 => ?_)
      refine qgc rfl rfl rfl Tryz.call52 (fun g => (.cons (g37.1 g) (.cons rfl (.cons rfl .nil)))) (fun g w hS => c_out) (fun v38 g38 => ?_)
      refine qv (fun w hS => (yOr rfl rfl (fun hB => (g38.1 hB)))) ?_
      refine qv (fun w hS => (yMove rfl)) ?_
      refine qg rfl rfl rfl (fun g w hS => (fa70_3 rfl)) (fun v41 g41 => ?_)
      refine qg rfl rfl rfl (fun g w hS => (yLdB (g41.1 g) Tryz.isAgg3 (hS.at _) rfl)) (fun v42 g42 => ?_)
      refine qg rfl rfl rfl (fun g w hS => (yMove h0)) (fun v43 g43 => ?_)
      refine qg rfl rfl rfl (fun g w hS => (yNil (g43.1 g))) (fun v44 g44 => ?_)
      refine qg rfl rfl rfl (fun g w hS => (fa141_0 (g44.1 g))) (fun v45 g45 => ?_)
      refine qg rfl rfl rfl (fun g w hS => (fa26_1 (g45.1 g))) (fun v46 g46 => ?_)
      refine qg rfl rfl rfl (fun g w hS => (yLdB (g46.1 g) Tryz.isAgg22 (hS.ext.get hb) rfl)) (fun v47 g47 => ?_)
      refine qg rfl rfl rfl (fun g w hS => (yLen (g47.1 g) Tryz.underlying22)) (fun v48 g48 => ?_)
      refine qg rfl rfl rfl (fun g w hS => (ySub (g48.1 g) rfl ⟨by omega, by omega⟩)) (fun v49 g49 => ?_)
      refine qgc rfl rfl rfl Tryz.call52 (fun g => (.cons (g42.1 g) (.cons rfl (.cons (g49.1 g) .nil)))) (fun g w hS => c_out) (fun v50 g50 => ?_)
      refine qv (fun w hS => (yOr rfl rfl (fun hB => (g50.1 hB)))) ?_
      refine qv (fun w hS => (yMove rfl)) ?_
      refine qg rfl rfl rfl (fun g w hS => (fa70_4 rfl)) (fun v53 g53 => ?_)
      refine qg rfl rfl rfl (fun g w hS => (yLdB (g53.1 g) Tryz.isAgg3 (hS.at _) rfl)) (fun v54 g54 => ?_)
      refine qg rfl rfl rfl (fun g w hS => (yMove h5)) (fun v55 g55 => ?_)
      refine qgc rfl rfl rfl Tryz.call52 (fun g => (.cons (g54.1 g) (.cons (g55.1 g) (.cons rfl .nil)))) (fun g w hS => c_out) (fun v56 g56 => ?_)
      refine qv (fun w hS => (yOr rfl rfl (fun hB => (g56.1 hB)))) ?_
      clear hS; refine qnil (fun w hS => ?_)
      show Code.wp _ _ _ _ _
      refine cond rfl (fun c57 => ?_) (fun c57 => ?_)
      ·
        have c57 : badM t x k be = true := c57
        refine seq ?_
        refine region ?_
        refine sv (yAsg rfl) ?_
        refine nil ?_
        show Code.wp _ _ _ _ _
        refine wp_ret (thenR (blockR (thenR (thenR (blockR (thenR ?_))))))
        exact retV (res1 rfl (eqI (by unfold wrongF; rw [if_neg (by omega), hI, hdx, wrongL, if_pos c57]))) hS.ext
      ·
        have c57 : badM t x k be = false := c57
        refine skip ?_
        show Code.wp _ _ _ _ _
        refine region ?_
        refine sv (fa70_4 rfl) ?_
        refine sv (yLdB rfl Tryz.isAgg3 (hS.at _) rfl) ?_
        refine sv (yAsg rfl) ?_
        refine nil ?_
        show Code.wp _ _ _ _ _
        refine region ?_
        refine sv (yAdd h13 rfl ⟨by omega, by omega⟩) ?_
        refine sv (yMove rfl) ?_
        refine nil ?_
        exact ⟨_, _, rfl, ⟨k + 1, x.sent, h0, rfl, h11, h12, rfl, (hS.sub (List.nil_sublist _)), (by omega), (by rw [hI, hdx, wrongL, if_neg (by rw [c57]; decide)]; rfl), rfl⟩, by omega⟩
    ·
      simp only [Bool.and_eq_true, Bool.or_eq_true, Bool.and_eq_false_iff, Bool.or_eq_false_iff, decide_eq_true_eq, decide_eq_false_iff_not, Bool.not_eq_true, Bool.not_eq_false, Bool.not_not, Bool.not_eq_eq_eq_not, Bool.not_true, Bool.not_false, Bool.false_eq_true, Bool.true_eq_false, ne_eq, Decidable.not_not, not_false_eq_true, not_true_eq_false] at c14
      obtain rfl : k = log.length := by omega
      refine exit ?_
      show Code.wp _ _ _ _ _
      refine seq ?_
      refine region ?_
      refine sv (yAsg rfl) ?_
      refine nil ?_
      show Code.wp _ _ _ _ _
      refine wp_ret ?_
      exact retV (res1 rfl (eqI (by unfold wrongF; rw [if_neg (by omega), hI, List.drop_length]; rfl))) hS.ext
/-- barrage/alarm.Next closure 1 -/
theorem c_Next1 {l : List Int} {c x : Int} {b g n2 : Nat} {T T2 : TypeId} {w0 : World} (hb : w0.heap[b]? = some (.cells [.slice (some ⟨g, 0, none⟩) l.length n2].toArray T (0, 0))) (hg : w0.heap[g]? = some (.cells (l.flatMap Bx.encI).toArray T2 (0, 0))) (hc : 0 ≤ c) (hx : l[c.toNat]? = some x) : CV Tryz.prog 87 #[.int .i64 c, .pointer (some ⟨b, 0, none⟩)] w0 (.bool (decide (x ≤ 0))) := by
  have hcl := (List.getElem?_eq_some_iff.1 hx).1
  refine enter Tryz.func87 rfl Tryz.ntmps87 rfl ?_
  have hS := St.start w0
  refine seq ?_
  refine region ?_
  refine sv (yAsg rfl) ?_
  refine nil ?_
  show Code.wp _ _ _ _ _
  refine seq ?_
  refine region ?_
  refine sv (yLdB rfl Tryz.isAgg34 (hS.ext.get hb) rfl) ?_
  refine sv (yMove rfl) ?_
  refine sv (yIx0 (m := c.toNat) rfl (rfl.trans (congrArg (Value.int .i64) (by omega))) Tryz.runUnderlying34 Tryz.sizeOf3 (by omega)) ?_
  refine sv (yLd rfl Tryz.isAgg3 ((flat_cells0 (enc := Bx.encI) encI_len (blk_cells (hS.ext.get hg)) hx).one)) ?_
  refine sv (yLeq rfl rfl) ?_
  refine sv (yAsg rfl) ?_
  refine nil ?_
  show Code.wp _ _ _ _ _
  refine wp_ret ?_
  exact retV (res1 rfl rfl) hS.ext
/-- barrage/alarm.Next closure 2 -/
theorem c_Next2 {t : Task} {c : Int} {b cap1 : Nat} {a1 : Option Addr} {v0 v2 v3 : Value} {T : TypeId} {w0 : World} (hb : w0.heap[b]? = some (.cells [v0, .slice a1 t.chans.length cap1, v2, v3].toArray T (0, 0))) (s1 : Sl w0 3 RChan (.slice a1 t.chans.length cap1) t.chans) (hc : 0 ≤ c ∧ c < t.chans.length) : CV Tryz.prog 88 #[.int .i64 c, .pointer (some ⟨b, 0, none⟩)] w0 (.int .i64 (chn t c).delay) := by
  obtain ⟨bc, oc, csc, hac, hlc, hcsc, hRc, -⟩ := sl_at s1 (chn_i hc)
  obtain ⟨rfl, -⟩ := hRc
  refine enter Tryz.func88 rfl Tryz.ntmps88 rfl ?_
  have hS := St.start w0
  refine seq ?_
  refine region ?_
  refine sv (yAsg rfl) ?_
  refine nil ?_
  show Code.wp _ _ _ _ _
  refine seq ?_
  refine region ?_
  refine sv (fa26_1 rfl) ?_
  refine sv (yLdB rfl Tryz.isAgg22 (hS.ext.get hb) rfl) ?_
  refine sv (yMove rfl) ?_
  refine sv (yIxa rfl hac rfl Tryz.runUnderlying22 Tryz.sizeOf41 (by omega) (by omega)) ?_
  refine sv (fa41_1 rfl) ?_
  refine sv (yLd rfl Tryz.isAgg3 ((hcsc.ext hS.ext).at (j := 1) rfl)) ?_
  refine sv (yAsg rfl) ?_
  refine nil ?_
  show Code.wp _ _ _ _ _
  refine wp_ret ?_
  exact retV (res1 rfl rfl) hS.ext
end Go.Proofs.YtmoilbakmlekbaaGreatDoor
/- part Aw16 -/
namespace Go.Proofs.YtmoilbakmlekbaaGreatDoor
open Go Bx
set_option maxHeartbeats 2000000 in
/-- barrage/alarm.Next -/
theorem c_Next {t : Task} {hv nv fv : Value} {now : Int} {log : List Msg} {lv : Value} {w0 : World} (hg : Glb w0) (h : RTask w0 [.int .i64 t.polders, hv, nv, fv] t) (hlg : Sl w0 5 RMsg lv log) : CE Tryz.prog 33 #[.agg [.int .i64 t.polders, hv, nv, fv].toArray, lv, .int .i64 now] w0 (fun u w' => ∃ v, u = .tuple #[v, .int .i64 (nextR t log now).2] ∧ St w0 w' [rowI v 70 5 (nextR t log now).1.length ((nextR t log now).1.flatMap msgC)]) := by
  obtain ⟨hv', nv', fv', he0, hpol, hsh, hsn, hsf⟩ := id h
  obtain ⟨rfl, rfl, rfl⟩ : hv' = hv ∧ nv' = nv ∧ fv' = fv := by simpa [eq_comm] using he0
  obtain ⟨a1, cap1, rfl, hcap1, hmx1, hel1⟩ := id hsh
  obtain ⟨a2, cap2, rfl, hcap2, hmx2, hel2⟩ := id hsn
  obtain ⟨a3, cap3, rfl, hcap3, hmx3, hel3⟩ := id hsf
  obtain ⟨al, cl, rfl, hlcap, hlmx, hlel⟩ := id hlg
  refine enter Tryz.func33 rfl Tryz.ntmps33 rfl ?_
  have hS := St.start w0
  refine seq ?_
  refine region ?_
  refine sbox hS rfl rfl ?_; clear hS; intro b3 w hS
  refine sv (yAsg rfl) ?_
  refine sv (yAsg rfl) ?_
  refine nil ?_
  show Code.wp _ _ _ _ _
  refine seq ?_
  refine region ?_
  refine sv (yLdBA rfl Tryz.isAgg26 Tryz.sizeOf26 (hS.at _) rfl rfl) ?_
  refine scall Tryz.call84 (.cons rfl .nil) (c_begin (hg.ext hS.ext) (h.ext hS.ext)) ?_
  rintro _ w (⟨he, rfl, hE⟩ | ⟨he, bb, b1, bz, rfl, hM⟩)
  ·
    replace hS := hS.step hE; clear hE
    refine sv (yMove rfl) ?_
    refine sv (yExt rfl rfl) ?_
    refine sv (yExt rfl rfl) ?_
    refine sv (yAsg rfl) ?_
    refine sv (yAsg rfl) ?_
    refine nil ?_
    show Code.wp _ _ _ _ _
    refine seq ?_
    refine seq ?_
    refine region ?_
    refine sv (yMove rfl) ?_
    refine sv (yEql rfl rfl) ?_
    refine nil ?_
    show Code.wp _ _ _ _ _
    refine cond rfl (fun c30 => ?_) (fun c30 => ?_)
    ·
      simp only [Bool.and_eq_true, Bool.or_eq_true, Bool.and_eq_false_iff, Bool.or_eq_false_iff, decide_eq_true_eq, decide_eq_false_iff_not, Bool.not_eq_true, Bool.not_eq_false, Bool.not_not, Bool.not_eq_eq_eq_not, Bool.not_true, Bool.not_false, Bool.false_eq_true, Bool.true_eq_false, ne_eq, Decidable.not_not, not_false_eq_true, not_true_eq_false] at c30
      exact absurd c30 he
    ·
      simp only [Bool.and_eq_true, Bool.or_eq_true, Bool.and_eq_false_iff, Bool.or_eq_false_iff, decide_eq_true_eq, decide_eq_false_iff_not, Bool.not_eq_true, Bool.not_eq_false, Bool.not_not, Bool.not_eq_eq_eq_not, Bool.not_true, Bool.not_false, Bool.false_eq_true, Bool.true_eq_false, ne_eq, Decidable.not_not, not_false_eq_true, not_true_eq_false] at c30
      refine skip ?_
      show Code.wp _ _ _ _ _
      refine seq ?_
      refine block ?_
      refine seq ?_
      refine region ?_
      refine sv (yMove rfl) ?_
      refine sv (yNeq rfl rfl) ?_
      refine sv (yAsg rfl) ?_
      refine nil ?_
      show Code.wp _ _ _ _ _
      refine cond rfl (fun c34 => ?_) (fun c34 => ?_)
      ·
        simp only [Bool.and_eq_true, Bool.or_eq_true, Bool.and_eq_false_iff, Bool.or_eq_false_iff, decide_eq_true_eq, decide_eq_false_iff_not, Bool.not_eq_true, Bool.not_eq_false, Bool.not_not, Bool.not_eq_eq_eq_not, Bool.not_true, Bool.not_false, Bool.false_eq_true, Bool.true_eq_false, ne_eq, Decidable.not_not, not_false_eq_true, not_true_eq_false] at c34
        refine seq ?_
        refine region ?_
        refine sv (yMove rfl) ?_
        refine sv (yAsg rfl) ?_
        refine sv (yAsg rfl) ?_
        refine nil ?_
        show Code.wp _ _ _ _ _
        refine wp_ret (blockR (thenR ?_))
        refine retQ (res2 rfl rfl rfl) ?_
        have hE : nextE t log now = (checkA t).2.2 := by unfold nextE; rw [if_pos he]
        have hf : nextR t log now = ([], (checkA t).2.2) := by unfold nextR; rw [hE, if_pos (by first | exact he | exact c34 | decide)]
        rw [hf]
        exact ⟨_, rfl, (hS.nilrow 70 5).sub (.cons_cons _ (List.nil_sublist _))⟩
      ·
        simp only [Bool.and_eq_true, Bool.or_eq_true, Bool.and_eq_false_iff, Bool.or_eq_false_iff, decide_eq_true_eq, decide_eq_false_iff_not, Bool.not_eq_true, Bool.not_eq_false, Bool.not_not, Bool.not_eq_eq_eq_not, Bool.not_true, Bool.not_false, Bool.false_eq_true, Bool.true_eq_false, ne_eq, Decidable.not_not, not_false_eq_true, not_true_eq_false] at c34
        exact absurd c34 he
  ·
    replace hS := hS.call hM; clear hM
    replace hS : StX [] w0 w [blk bb [.int .i64 t.polders, .slice a1 t.chans.length cap1, .slice a2 t.towns.length cap2, .slice a3 t.floods.length cap3, .slice (some ⟨b1, 0, none⟩) t.towns.length t.towns.length, .slice (some ⟨bz, 0, none⟩) t.towns.length t.towns.length] 141, blk b1 ((arrS t).flatMap spanC) 44, blk bz ((arrN t).flatMap Bx.encI) 3, blk b3 [.int .i64 t.polders, .slice a1 t.chans.length cap1, .slice a2 t.towns.length cap2, .slice a3 t.floods.length cap3] 26] := hS
    have hok := task_ok he
    refine sv (yMove rfl) ?_
    refine sv (yExt rfl rfl) ?_
    refine sv (yExt rfl rfl) ?_
    refine sv (yAsg rfl) ?_
    refine sv (yAsg rfl) ?_
    refine nil ?_
    show Code.wp _ _ _ _ _
    refine seq ?_
    refine seq ?_
    refine region ?_
    refine sv (yMove rfl) ?_
    refine sv (yEql rfl rfl) ?_
    refine nil ?_
    show Code.wp _ _ _ _ _
    refine cond rfl (fun c30 => ?_) (fun c30 => ?_)
    ·
      refine region ?_
      refine sv (yMove rfl) ?_
      refine sv (yMove rfl) ?_
      refine scall Tryz.call81 (.cons rfl (.cons rfl .nil)) (c_wrong (board_mk (hS.at bb) (h.ext hS.ext) hok (hS.at b1) (hS.at bz)) (hlg.ext RMsg.stays hS.ext)) ?_
      rintro _ w ⟨rfl, hE⟩; replace hS := hS.step hE; clear hE
      refine sv (yAsg rfl) ?_
      refine nil ?_
      show Code.wp _ _ _ _ _
      refine seqJ (n := 184) (fun f w => f 1 = .slice al log.length cl ∧ f 2 = .int .i64 now ∧ f 3 = .pointer (some ⟨b3, 0, none⟩) ∧ f 6 = .slice none 0 0 ∧ f 8 = .pointer (some ⟨bb, 0, none⟩) ∧ StX [] w0 w [blk bb [.int .i64 t.polders, .slice a1 t.chans.length cap1, .slice a2 t.towns.length cap2, .slice a3 t.floods.length cap3, .slice (some ⟨b1, 0, none⟩) t.towns.length t.towns.length, .slice (some ⟨bz, 0, none⟩) t.towns.length t.towns.length] 141, blk b1 ((arrS t).flatMap spanC) 44, blk bz ((arrN t).flatMap Bx.encI) 3, blk b3 [.int .i64 t.polders, .slice a1 t.chans.length cap1, .slice a2 t.towns.length cap2, .slice a3 t.floods.length cap3] 26] ∧ (nextE t log now = 0) ∧ (wrongF t log = 0) ∧ True) ?_ ?_
      ·
        refine block ?_
        refine seq ?_
        refine region ?_
        refine sv (yMove rfl) ?_
        refine sv (yNeq rfl rfl) ?_
        refine sv (yAsg rfl) ?_
        refine nil ?_
        show Code.wp _ _ _ _ _
        refine cond rfl (fun c34 => ?_) (fun c34 => ?_)
        ·
          simp only [Bool.and_eq_true, Bool.or_eq_true, Bool.and_eq_false_iff, Bool.or_eq_false_iff, decide_eq_true_eq, decide_eq_false_iff_not, Bool.not_eq_true, Bool.not_eq_false, Bool.not_not, Bool.not_eq_eq_eq_not, Bool.not_true, Bool.not_false, Bool.false_eq_true, Bool.true_eq_false, ne_eq, Decidable.not_not, not_false_eq_true, not_true_eq_false] at c34
          refine seq ?_
          refine region ?_
          refine sv (yMove rfl) ?_
          refine sv (yAsg rfl) ?_
          refine sv (yAsg rfl) ?_
          refine nil ?_
          show Code.wp _ _ _ _ _
          refine wp_ret (blockR (thenR ?_))
          refine retQ (res2 rfl rfl rfl) ?_
          have hE : nextE t log now = wrongF t log := by unfold nextE; rw [if_neg (fun h => h he), if_pos c34]
          have hf : nextR t log now = ([], wrongF t log) := by unfold nextR; rw [hE, if_pos (by first | exact he | exact c34 | decide)]
          rw [hf]
          exact ⟨_, rfl, (hS.nilrow 70 5).sub (.cons_cons _ (List.nil_sublist _))⟩
        ·
          simp only [Bool.and_eq_true, Bool.or_eq_true, Bool.and_eq_false_iff, Bool.or_eq_false_iff, decide_eq_true_eq, decide_eq_false_iff_not, Bool.not_eq_true, Bool.not_eq_false, Bool.not_not, Bool.not_eq_eq_eq_not, Bool.not_true, Bool.not_false, Bool.false_eq_true, Bool.true_eq_false, ne_eq, Decidable.not_not, not_false_eq_true, not_true_eq_false] at c34
          obtain ⟨z, bz2, oz2, csz, haz⟩ := last_at hlg
          refine seq ?_
          refine region ?_
          refine sv (yMove rfl) ?_
          refine scall Tryz.call52 (.cons rfl (.cons rfl (.cons rfl .nil))) c_out ?_
          rintro _ w ⟨rfl, hE⟩; replace hS := hS.step hE; clear hE
          refine sv (yMove rfl) ?_
          refine sg rfl rfl rfl (fun g => (yMove rfl)) (fun v42 g42 => ?_)
          refine sg rfl rfl rfl (fun g => (yLen (g42.1 g) Tryz.underlying62)) (fun v43 g43 => ?_)
          refine sg rfl rfl rfl (fun g => (yGtr (g43.1 g) rfl)) (fun v44 g44 => ?_)
          refine sg rfl rfl rfl (fun g => (yMove (g44.1 g))) (fun v45 g45 => ?_)
          refine sgg rfl rfl g45 (fun g => (yMove rfl)) (fun v46 g46 => ?_)
          refine sgg rfl rfl g45 (fun g => (yMove rfl)) (fun v47 g47 => ?_)
          refine sgg rfl rfl g45 (fun g => (yLen (g47.1 g) Tryz.underlying62)) (fun v48 g48 => ?_)
          refine sgg rfl rfl g45 (fun g => (ySub (g48.1 g) rfl ⟨by omega, by omega⟩)) (fun v49 g49 => ?_)
          refine sgg rfl rfl g45 (fun g => (yIxa (g46.1 g) (haz (of_decide_eq_true g.2)).1 (g49.1 g) Tryz.runUnderlying62 Tryz.sizeOf70 (by have := (of_decide_eq_true g.2); omega) (by have := (of_decide_eq_true g.2); omega))) (fun v50 g50 => ?_)
          refine sgg rfl rfl g45 (fun g => (fa70_4 (g50.1 g))) (fun v51 g51 => ?_)
          refine sgg rfl rfl g45 (fun g => (yLd (g51.1 g) Tryz.isAgg3 (((haz (of_decide_eq_true g.2)).2.1.ext hS.ext).at (j := 4) (haz (of_decide_eq_true g.2)).2.2.1))) (fun v52 g52 => ?_)
          refine sgg rfl rfl g45 (fun g => (yMove rfl)) (fun v53 g53 => ?_)
          refine sgg rfl rfl g45 (fun g => (yGtr (g52.1 g) (g53.1 g))) (fun v54 g54 => ?_)
          refine sg rfl rfl rfl (fun g => (yAnd (g45.1 g) (fun hB => (g54.1 ⟨g, hB⟩)) rfl)) (fun v55 g55 => ?_)
          refine sv (yOr rfl rfl (fun hB => (g55.1 hB))) ?_
          refine sv (yAsg rfl) ?_
          refine nil ?_
          show Code.wp _ _ _ _ _
          refine cond rfl (fun c38 => ?_) (fun c38 => ?_)
          ·
            have hla : lateB log now = (decide ((0 : Int) < log.length) && decide (now < z.sent)) := late_if fun h => (haz h).2.2.2
            refine seq ?_
            refine region ?_
            refine sv (yAsg rfl) ?_
            refine sv (yAsg rfl) ?_
            refine nil ?_
            show Code.wp _ _ _ _ _
            refine wp_ret (blockR (thenR ?_))
            refine retQ (res2 rfl rfl rfl) ?_
            have hE : nextE t log now = 7 := by unfold nextE; rw [if_neg (fun h => h he), if_neg (fun h => h c34), if_pos (by rw [hla]; exact c38)]
            have hf : nextR t log now = ([], 7) := by unfold nextR; rw [hE, if_pos (by first | exact he | exact c34 | decide)]
            rw [hf]
            exact ⟨_, rfl, (hS.nilrow 70 5).sub (.cons_cons _ (List.nil_sublist _))⟩
          ·
            have hla : lateB log now = (decide ((0 : Int) < log.length) && decide (now < z.sent)) := late_if fun h => (haz h).2.2.2
            refine skip ?_
            exact ⟨_, rfl, rfl, rfl, rfl, rfl, rfl, hS, (by unfold nextE; rw [if_neg (fun h => h he), if_neg (fun h => h c34), if_neg (by rw [hla, show (outB now 0 200000 || (decide ((0 : Int) < log.length) && decide (now < z.sent))) = false from c38]; decide)]), (c34), trivial⟩
      ·
        clear hS; rintro f w ⟨h1, h2, h3, h6, h8, hS, hE1, hwr, -⟩
        have hB : RBoard w bb t := board_mk (hS.at bb) (h.ext hS.ext) hok (hS.at b1) (hS.at bz)
        have hb3 : w.heap[b3]? = some (.cells [.int .i64 t.polders, .slice a1 t.chans.length cap1, .slice a2 t.towns.length cap2, .slice a3 t.floods.length cap3].toArray 26 (0, 0)) := hS.at b3
        have hE0 := hS.ext
        have s1 := hsh.ext RChan.stays hE0
        have s2 := hsn.ext RTown.stays hE0
        have sL := hlg.ext RMsg.stays hE0
        obtain ⟨w0, hwq⟩ : ∃ wq, wq = w := ⟨w, rfl⟩
        rw [← hwq] at hE0 hB hb3 s1 s2 sL
        replace hS : StX [] w0 w [] := by rw [hwq]; exact St.start w
        clear hwq
        have hn8 := hok.ntw
        have hc4 := hok.nch
        obtain ⟨hlz, hmo, -, -⟩ := wrongF_ok hwr
        refine seqJ (n := 184) (fun f w => ∃ (b60 b64 b10 : Nat), f 1 = .slice al log.length cl ∧ f 2 = .int .i64 now ∧ f 3 = .pointer (some ⟨b3, 0, none⟩) ∧ f 6 = .slice none 0 0 ∧ f 8 = .pointer (some ⟨bb, 0, none⟩) ∧ f 9 = .slice (some ⟨b60, 0, none⟩) t.towns.length t.towns.length ∧ f 10 = .pointer (some ⟨b10, 0, none⟩) ∧ StX [] w0 w [blk b10 [.slice (some ⟨b64, 0, none⟩) t.chans.length t.chans.length] 34, blk b60 ((List.replicate t.towns.length [.int .i64 0]).flatten) 3, blk b64 ((List.replicate t.chans.length [.int .i64 0]).flatten) 3] ∧ True) ?_ ?_
        ·
          refine region_mix (fun w => StX [] w0 w []) 11 mixed hS ?_
          clear hS; intro w hS
          refine f_step 0 (by kernel_rfl) rfl (fun c a a' w h => by obtain ⟨_, v, hv, _⟩ := h; cases hv) (hS.sub (List.nil_sublist _)) (fun w hS => (fa26_2 h3)) ?_
          refine f_step 1 (by kernel_rfl) rfl (fun c a a' w h => by obtain ⟨_, v, hv, _⟩ := h; cases hv) (hS.sub (List.nil_sublist _)) (fun w hS => (yLdB rfl Tryz.isAgg23 (hS.ext.get hb3) rfl)) ?_
          refine f_step 2 (by kernel_rfl) rfl (fun c a a' w h => by obtain ⟨_, v, hv, _⟩ := h; cases hv) (hS.sub (List.nil_sublist _)) (fun w hS => (yLen rfl Tryz.underlying23)) ?_
          refine f_step 4 (by kernel_rfl) rfl (fun c a a' w h => by obtain ⟨_, v, hv, _⟩ := h; cases hv) (hS.sub (List.nil_sublist _)) (fun w hS => (fa26_1 h3)) ?_
          refine f_step 5 (by kernel_rfl) rfl (fun c a a' w h => by obtain ⟨_, v, hv, _⟩ := h; cases hv) (hS.sub (List.nil_sublist _)) (fun w hS => (yLdB rfl Tryz.isAgg22 (hS.ext.get hb3) rfl)) ?_
          refine f_step 6 (by kernel_rfl) rfl (fun c a a' w h => by obtain ⟨_, v, hv, _⟩ := h; cases hv) (hS.sub (List.nil_sublist _)) (fun w hS => (yLen rfl Tryz.underlying22)) ?_
          show wpA _ _ _ _ _ _ _ _ _ _
          refine a_step (i := 3) (is := [7, 8]) (by kernel_rfl) ⟨?_, ?_, ?_, trivial⟩
          ·
            refine ⟨_, rfl, ?_⟩
            refine smake (bytes := 8) (zs := [.int .i64 0])  hS rfl rfl Tryz.underlying34 ti3 rfl rfl rfl rfl rfl (by omega) (by omega) ?_; clear hS; intro b60 w hS
            refine nil ?_
            refine ⟨fun _ => (hS.sub (List.nil_sublist _)), ?_⟩
            show wpA _ _ _ _ _ _ _ _ _ _
            show wpA _ _ _ _ _ _ _ _ _ _
            refine a_step (i := 7) (is := [8]) (by kernel_rfl) ⟨?_, ?_, trivial⟩
            ·
              refine ⟨_, rfl, ?_⟩
              refine smake (bytes := 8) (zs := [.int .i64 0])  hS rfl rfl Tryz.underlying34 ti3 rfl rfl rfl rfl rfl (by omega) (by omega) ?_; clear hS; intro b64 w hS
              refine nil ?_
              refine ⟨fun _ => (hS.sub (List.nil_sublist _)), ?_⟩
              show wpA _ _ _ _ _ _ _ _ _ _
              show wpA _ _ _ _ _ _ _ _ _ _
              refine a_step (i := 8) (is := []) (by kernel_rfl) ⟨?_, trivial⟩
              refine ⟨_, rfl, ?_⟩
              refine salloc hS Tryz.zeroValue34 rfl ?_; clear hS; intro b10 w hS
              refine nil ?_
              refine ⟨fun _ => (hS.sub (List.nil_sublist _)), ?_⟩
              show wpA _ _ _ _ _ _ _ _ _ _
              refine f_step 9 (by kernel_rfl) rfl (fun c a a' w h => by obtain ⟨_, v, hv, _⟩ := h; cases hv) (hS.sub (List.nil_sublist _)) (fun w hS => (yAsg rfl)) ?_
              show wpA _ _ _ _ _ _ _ _ _ _
              refine a_step (i := 10) (is := []) (by kernel_rfl) ⟨?_, trivial⟩
              refine ⟨_, rfl, ?_⟩
              refine sst hS rfl rfl Tryz.sizeOf34 rfl rfl rfl rfl ?_; clear hS; intro w hS
              refine nil ?_
              refine ⟨fun _ => (hS.sub (List.nil_sublist _)), ?_⟩
              show wpA _ _ _ _ _ _ _ _ _ _
              refine a_end (by kernel_rfl) ?_
              exact ⟨_, rfl, b60, b64, b10, h1, h2, h3, h6, h8, rfl, rfl, (by first | exact hS | exact hS.perm (List.Perm.swap _ _ _) | exact hS.perm ((List.Perm.swap _ _ _).cons _) | exact hS.perm ((List.Perm.swap _ _ _).trans ((List.Perm.swap _ _ _).cons _)) | exact hS.perm (((List.Perm.swap _ _ _).cons _).trans (List.Perm.swap _ _ _)) | exact hS.perm ((List.Perm.swap _ _ _).trans (((List.Perm.swap _ _ _).cons _).trans (List.Perm.swap _ _ _)))), trivial⟩
            ·
              refine ⟨_, rfl, ?_⟩
              refine salloc hS Tryz.zeroValue34 rfl ?_; clear hS; intro b10 w hS
              refine nil ?_
              refine ⟨fun _ => (hS.sub (List.nil_sublist _)), ?_⟩
              show wpA _ _ _ _ _ _ _ _ _ _
              refine f_step 9 (by kernel_rfl) rfl (fun c a a' w h => by obtain ⟨_, v, hv, _⟩ := h; cases hv) (hS.sub (List.nil_sublist _)) (fun w hS => (yAsg rfl)) ?_
              show wpA _ _ _ _ _ _ _ _ _ _
              refine a_step (i := 7) (is := []) (by kernel_rfl) ⟨?_, trivial⟩
              refine ⟨_, rfl, ?_⟩
              refine smake (bytes := 8) (zs := [.int .i64 0])  hS rfl rfl Tryz.underlying34 ti3 rfl rfl rfl rfl rfl (by omega) (by omega) ?_; clear hS; intro b64 w hS
              refine nil ?_
              refine ⟨fun _ => (hS.sub (List.nil_sublist _)), ?_⟩
              show wpA _ _ _ _ _ _ _ _ _ _
              show wpA _ _ _ _ _ _ _ _ _ _
              refine a_step (i := 10) (is := []) (by kernel_rfl) ⟨?_, trivial⟩
              refine ⟨_, rfl, ?_⟩
              refine sst hS rfl rfl Tryz.sizeOf34 rfl rfl rfl rfl ?_; clear hS; intro w hS
              refine nil ?_
              refine ⟨fun _ => (hS.sub (List.nil_sublist _)), ?_⟩
              show wpA _ _ _ _ _ _ _ _ _ _
              refine a_end (by kernel_rfl) ?_
              exact ⟨_, rfl, b60, b64, b10, h1, h2, h3, h6, h8, rfl, rfl, (by first | exact hS | exact hS.perm (List.Perm.swap _ _ _) | exact hS.perm ((List.Perm.swap _ _ _).cons _) | exact hS.perm ((List.Perm.swap _ _ _).trans ((List.Perm.swap _ _ _).cons _)) | exact hS.perm (((List.Perm.swap _ _ _).cons _).trans (List.Perm.swap _ _ _)) | exact hS.perm ((List.Perm.swap _ _ _).trans (((List.Perm.swap _ _ _).cons _).trans (List.Perm.swap _ _ _)))), trivial⟩
          ·
            refine ⟨_, rfl, ?_⟩
            refine smake (bytes := 8) (zs := [.int .i64 0])  hS rfl rfl Tryz.underlying34 ti3 rfl rfl rfl rfl rfl (by omega) (by omega) ?_; clear hS; intro b64 w hS
            refine nil ?_
            refine ⟨fun _ => (hS.sub (List.nil_sublist _)), ?_⟩
            show wpA _ _ _ _ _ _ _ _ _ _
            show wpA _ _ _ _ _ _ _ _ _ _
            refine a_step (i := 3) (is := [8]) (by kernel_rfl) ⟨?_, ?_, trivial⟩
            ·
              refine ⟨_, rfl, ?_⟩
              refine smake (bytes := 8) (zs := [.int .i64 0])  hS rfl rfl Tryz.underlying34 ti3 rfl rfl rfl rfl rfl (by omega) (by omega) ?_; clear hS; intro b60 w hS
              refine nil ?_
              refine ⟨fun _ => (hS.sub (List.nil_sublist _)), ?_⟩
              show wpA _ _ _ _ _ _ _ _ _ _
              show wpA _ _ _ _ _ _ _ _ _ _
              refine a_step (i := 8) (is := []) (by kernel_rfl) ⟨?_, trivial⟩
              refine ⟨_, rfl, ?_⟩
              refine salloc hS Tryz.zeroValue34 rfl ?_; clear hS; intro b10 w hS
              refine nil ?_
              refine ⟨fun _ => (hS.sub (List.nil_sublist _)), ?_⟩
              show wpA _ _ _ _ _ _ _ _ _ _
              refine f_step 9 (by kernel_rfl) rfl (fun c a a' w h => by obtain ⟨_, v, hv, _⟩ := h; cases hv) (hS.sub (List.nil_sublist _)) (fun w hS => (yAsg rfl)) ?_
              show wpA _ _ _ _ _ _ _ _ _ _
              refine a_step (i := 10) (is := []) (by kernel_rfl) ⟨?_, trivial⟩
              refine ⟨_, rfl, ?_⟩
              refine sst hS rfl rfl Tryz.sizeOf34 rfl rfl rfl rfl ?_; clear hS; intro w hS
              refine nil ?_
              refine ⟨fun _ => (hS.sub (List.nil_sublist _)), ?_⟩
              show wpA _ _ _ _ _ _ _ _ _ _
              refine a_end (by kernel_rfl) ?_
              exact ⟨_, rfl, b60, b64, b10, h1, h2, h3, h6, h8, rfl, rfl, (by first | exact hS | exact hS.perm (List.Perm.swap _ _ _) | exact hS.perm ((List.Perm.swap _ _ _).cons _) | exact hS.perm ((List.Perm.swap _ _ _).trans ((List.Perm.swap _ _ _).cons _)) | exact hS.perm (((List.Perm.swap _ _ _).cons _).trans (List.Perm.swap _ _ _)) | exact hS.perm ((List.Perm.swap _ _ _).trans (((List.Perm.swap _ _ _).cons _).trans (List.Perm.swap _ _ _)))), trivial⟩
            ·
              refine ⟨_, rfl, ?_⟩
              refine salloc hS Tryz.zeroValue34 rfl ?_; clear hS; intro b10 w hS
              refine nil ?_
              refine ⟨fun _ => (hS.sub (List.nil_sublist _)), ?_⟩
              show wpA _ _ _ _ _ _ _ _ _ _
              show wpA _ _ _ _ _ _ _ _ _ _
              refine a_step (i := 3) (is := []) (by kernel_rfl) ⟨?_, trivial⟩
              refine ⟨_, rfl, ?_⟩
              refine smake (bytes := 8) (zs := [.int .i64 0])  hS rfl rfl Tryz.underlying34 ti3 rfl rfl rfl rfl rfl (by omega) (by omega) ?_; clear hS; intro b60 w hS
              refine nil ?_
              refine ⟨fun _ => (hS.sub (List.nil_sublist _)), ?_⟩
              show wpA _ _ _ _ _ _ _ _ _ _
              refine f_step 9 (by kernel_rfl) rfl (fun c a a' w h => by obtain ⟨_, v, hv, _⟩ := h; cases hv) (hS.sub (List.nil_sublist _)) (fun w hS => (yAsg rfl)) ?_
              show wpA _ _ _ _ _ _ _ _ _ _
              refine a_step (i := 10) (is := []) (by kernel_rfl) ⟨?_, trivial⟩
              refine ⟨_, rfl, ?_⟩
              refine sst hS rfl rfl Tryz.sizeOf34 rfl rfl rfl rfl ?_; clear hS; intro w hS
              refine nil ?_
              refine ⟨fun _ => (hS.sub (List.nil_sublist _)), ?_⟩
              show wpA _ _ _ _ _ _ _ _ _ _
              refine a_end (by kernel_rfl) ?_
              exact ⟨_, rfl, b60, b64, b10, h1, h2, h3, h6, h8, rfl, rfl, (by first | exact hS | exact hS.perm (List.Perm.swap _ _ _) | exact hS.perm ((List.Perm.swap _ _ _).cons _) | exact hS.perm ((List.Perm.swap _ _ _).trans ((List.Perm.swap _ _ _).cons _)) | exact hS.perm (((List.Perm.swap _ _ _).cons _).trans (List.Perm.swap _ _ _)) | exact hS.perm ((List.Perm.swap _ _ _).trans (((List.Perm.swap _ _ _).cons _).trans (List.Perm.swap _ _ _)))), trivial⟩
          ·
            refine ⟨_, rfl, ?_⟩
            refine salloc hS Tryz.zeroValue34 rfl ?_; clear hS; intro b10 w hS
            refine nil ?_
            refine ⟨fun _ => (hS.sub (List.nil_sublist _)), ?_⟩
            show wpA _ _ _ _ _ _ _ _ _ _
            show wpA _ _ _ _ _ _ _ _ _ _
            refine a_step (i := 3) (is := [7]) (by kernel_rfl) ⟨?_, ?_, trivial⟩
            ·
              refine ⟨_, rfl, ?_⟩
              refine smake (bytes := 8) (zs := [.int .i64 0])  hS rfl rfl Tryz.underlying34 ti3 rfl rfl rfl rfl rfl (by omega) (by omega) ?_; clear hS; intro b60 w hS
              refine nil ?_
              refine ⟨fun _ => (hS.sub (List.nil_sublist _)), ?_⟩
              show wpA _ _ _ _ _ _ _ _ _ _
              refine f_step 9 (by kernel_rfl) rfl (fun c a a' w h => by obtain ⟨_, v, hv, _⟩ := h; cases hv) (hS.sub (List.nil_sublist _)) (fun w hS => (yAsg rfl)) ?_
              show wpA _ _ _ _ _ _ _ _ _ _
              refine a_step (i := 7) (is := []) (by kernel_rfl) ⟨?_, trivial⟩
              refine ⟨_, rfl, ?_⟩
              refine smake (bytes := 8) (zs := [.int .i64 0])  hS rfl rfl Tryz.underlying34 ti3 rfl rfl rfl rfl rfl (by omega) (by omega) ?_; clear hS; intro b64 w hS
              refine nil ?_
              refine ⟨fun _ => (hS.sub (List.nil_sublist _)), ?_⟩
              show wpA _ _ _ _ _ _ _ _ _ _
              show wpA _ _ _ _ _ _ _ _ _ _
              refine a_step (i := 10) (is := []) (by kernel_rfl) ⟨?_, trivial⟩
              refine ⟨_, rfl, ?_⟩
              refine sst hS rfl rfl Tryz.sizeOf34 rfl rfl rfl rfl ?_; clear hS; intro w hS
              refine nil ?_
              refine ⟨fun _ => (hS.sub (List.nil_sublist _)), ?_⟩
              show wpA _ _ _ _ _ _ _ _ _ _
              refine a_end (by kernel_rfl) ?_
              exact ⟨_, rfl, b60, b64, b10, h1, h2, h3, h6, h8, rfl, rfl, (by first | exact hS | exact hS.perm (List.Perm.swap _ _ _) | exact hS.perm ((List.Perm.swap _ _ _).cons _) | exact hS.perm ((List.Perm.swap _ _ _).trans ((List.Perm.swap _ _ _).cons _)) | exact hS.perm (((List.Perm.swap _ _ _).cons _).trans (List.Perm.swap _ _ _)) | exact hS.perm ((List.Perm.swap _ _ _).trans (((List.Perm.swap _ _ _).cons _).trans (List.Perm.swap _ _ _)))), trivial⟩
            ·
              refine ⟨_, rfl, ?_⟩
              refine smake (bytes := 8) (zs := [.int .i64 0])  hS rfl rfl Tryz.underlying34 ti3 rfl rfl rfl rfl rfl (by omega) (by omega) ?_; clear hS; intro b64 w hS
              refine nil ?_
              refine ⟨fun _ => (hS.sub (List.nil_sublist _)), ?_⟩
              show wpA _ _ _ _ _ _ _ _ _ _
              show wpA _ _ _ _ _ _ _ _ _ _
              refine a_step (i := 3) (is := []) (by kernel_rfl) ⟨?_, trivial⟩
              refine ⟨_, rfl, ?_⟩
              refine smake (bytes := 8) (zs := [.int .i64 0])  hS rfl rfl Tryz.underlying34 ti3 rfl rfl rfl rfl rfl (by omega) (by omega) ?_; clear hS; intro b60 w hS
              refine nil ?_
              refine ⟨fun _ => (hS.sub (List.nil_sublist _)), ?_⟩
              show wpA _ _ _ _ _ _ _ _ _ _
              refine f_step 9 (by kernel_rfl) rfl (fun c a a' w h => by obtain ⟨_, v, hv, _⟩ := h; cases hv) (hS.sub (List.nil_sublist _)) (fun w hS => (yAsg rfl)) ?_
              show wpA _ _ _ _ _ _ _ _ _ _
              refine a_step (i := 10) (is := []) (by kernel_rfl) ⟨?_, trivial⟩
              refine ⟨_, rfl, ?_⟩
              refine sst hS rfl rfl Tryz.sizeOf34 rfl rfl rfl rfl ?_; clear hS; intro w hS
              refine nil ?_
              refine ⟨fun _ => (hS.sub (List.nil_sublist _)), ?_⟩
              show wpA _ _ _ _ _ _ _ _ _ _
              refine a_end (by kernel_rfl) ?_
              exact ⟨_, rfl, b60, b64, b10, h1, h2, h3, h6, h8, rfl, rfl, (by first | exact hS | exact hS.perm (List.Perm.swap _ _ _) | exact hS.perm ((List.Perm.swap _ _ _).cons _) | exact hS.perm ((List.Perm.swap _ _ _).trans ((List.Perm.swap _ _ _).cons _)) | exact hS.perm (((List.Perm.swap _ _ _).cons _).trans (List.Perm.swap _ _ _)) | exact hS.perm ((List.Perm.swap _ _ _).trans (((List.Perm.swap _ _ _).cons _).trans (List.Perm.swap _ _ _)))), trivial⟩
        ·
          clear hS; rintro f w ⟨b60, b64, b10, h1, h2, h3, h6, h8, h9, h10, hS, -⟩
          refine seq ?_
          refine seq ?_
          refine region ?_
          refine sv (fa26_1 h3) ?_
          refine sv (yLdB rfl Tryz.isAgg22 (hS.ext.get hb3) rfl) ?_
          refine sv (yLen rfl Tryz.underlying22) ?_
          refine sv (yMove rfl) ?_
          refine nil ?_
          show Code.wp _ _ _ _ _
          refine block ?_
          refine loop (fun f w zz => ∃ (k : Nat) (rs : List Int), f 1 = .slice al log.length cl ∧ f 2 = .int .i64 now ∧ f 3 = .pointer (some ⟨b3, 0, none⟩) ∧ f 6 = .slice none 0 0 ∧ f 8 = .pointer (some ⟨bb, 0, none⟩) ∧ f 9 = .slice (some ⟨b60, 0, none⟩) t.towns.length t.towns.length ∧ f 10 = .pointer (some ⟨b10, 0, none⟩) ∧ f 66 = .slice a1 t.chans.length cap1 ∧ f 67 = .int .i64 (t.chans.length : Int) ∧ f 68 = .int .i64 (k : Int) ∧ StX [] w0 w [blk b10 [.slice (some ⟨b64, 0, none⟩) t.chans.length t.chans.length] 34, blk b60 ((List.replicate t.towns.length [.int .i64 0]).flatten) 3, blk b64 ((rs).flatMap Bx.encI) 3] ∧ (k ≤ t.chans.length) ∧ (rs.length = t.chans.length) ∧ (∀ j, j < t.chans.length → rs[j]? = some (if j < k then (chn t (j : Int)).room else 0)) ∧ zz = t.chans.length - k) _ ⟨_, rfl, 0, List.replicate t.chans.length 0, h1, h2, h3, h6, h8, h9, h10, rfl, rfl, rfl, (by rw [← flat_rep (enc := Bx.encI) (z := 0) (zs := [.int .i64 0]) rfl]; exact hS), (Nat.zero_le _), (by simp), (fun j hj => by simp [hj]), rfl⟩ ?_
          clear hS
          rintro f w _ ⟨k, rs, h1, h2, h3, h6, h8, h9, h10, h66, h67, h68, hS, hk, hrl, hR, rfl⟩
          refine seq ?_
          refine region ?_
          refine sv (yLss h68 h67) ?_
          refine nil ?_
          show Code.wp _ _ _ _ _
          refine seq ?_
          refine cond rfl (fun c69 => ?_) (fun c69 => ?_)
          ·
            simp only [Bool.and_eq_true, Bool.or_eq_true, Bool.and_eq_false_iff, Bool.or_eq_false_iff, decide_eq_true_eq, decide_eq_false_iff_not, Bool.not_eq_true, Bool.not_eq_false, Bool.not_not, Bool.not_eq_eq_eq_not, Bool.not_true, Bool.not_false, Bool.false_eq_true, Bool.true_eq_false, ne_eq, Decidable.not_not, not_false_eq_true, not_true_eq_false] at c69
            have hc : 0 ≤ (k : Int) ∧ (k : Int) < t.chans.length := by omega
            obtain ⟨bc, oc, csc, hac, hlc, hcsc, hRc, -⟩ := sl_at s1 (chn_i (t := t) hc)
            obtain ⟨rfl, -⟩ := hRc
            have hco := chan_ok hok hc
            refine skip ?_
            show Code.wp _ _ _ _ _
            refine seq ?_
            refine block ?_
            refine seq ?_
            refine region ?_
            refine sv (yMove h68) ?_
            refine sv (yIxa h66 hac h68 Tryz.runUnderlying22 Tryz.sizeOf41 (by omega) (by omega)) ?_
            refine sv (yLdA rfl Tryz.isAgg41 Tryz.sizeOf41 (hcsc.ext hS.ext) rfl) ?_
            refine salloc hS Tryz.zeroValue41 rfl ?_; clear hS; intro b12 w hS
            refine sv (yAsg rfl) ?_
            refine sst hS rfl rfl Tryz.sizeOf41 rfl rfl rfl rfl ?_; clear hS; intro w hS
            refine nil ?_
            show Code.wp _ _ _ _ _
            refine region ?_
            refine sv (yLdB h10 Tryz.isAgg34 (hS.at _) rfl) ?_
            refine sv (yMove rfl) ?_
            refine sv (fa41_2 rfl) ?_
            refine sv (yLdB rfl Tryz.isAgg3 (hS.at _) rfl) ?_
            refine sv (yIx0 (m := k) rfl (rfl) Tryz.runUnderlying34 Tryz.sizeOf3 (by omega)) ?_
            refine sst hS rfl rfl Tryz.sizeOf3 rfl rfl (by rw [Nat.ble_eq, flat_len encI_len]; simp; omega) rfl ?_; clear hS; intro w hS
            refine nil ?_
            show Code.wp _ _ _ _ _
            refine region ?_
            refine sv (yAdd h68 rfl ⟨by omega, by omega⟩) ?_
            refine sv (yMove rfl) ?_
            refine nil ?_
            exact ⟨_, _, rfl, ⟨k + 1, rs.set k (chn t (k : Int)).room, h1, h2, h3, h6, h8, h9, h10, h66, h67, rfl, (by rw [← splice_enc encI_len rs k _ (by omega)]; exact hS.sub (.cons _ (List.Sublist.refl _))), (by omega), (by simp [hrl]), (set_nth (A := fun j => (chn t (j : Int)).room) hrl (by omega) hR), rfl⟩, by omega⟩
          ·
            simp only [Bool.and_eq_true, Bool.or_eq_true, Bool.and_eq_false_iff, Bool.or_eq_false_iff, decide_eq_true_eq, decide_eq_false_iff_not, Bool.not_eq_true, Bool.not_eq_false, Bool.not_not, Bool.not_eq_eq_eq_not, Bool.not_true, Bool.not_false, Bool.false_eq_true, Bool.true_eq_false, ne_eq, Decidable.not_not, not_false_eq_true, not_true_eq_false] at c69
            obtain rfl : k = t.chans.length := by omega
            refine exit ?_
            show Code.wp _ _ _ _ _
            refine seq ?_
            refine seq ?_
            refine region ?_
            refine sv (yMove h1) ?_
            refine sv (yLen rfl Tryz.underlying62) ?_
            refine sv (yMove rfl) ?_
            refine nil ?_
            show Code.wp _ _ _ _ _
            refine block ?_
            refine loop (fun f w zz => ∃ (k : Nat) (ls rs : List Int), f 1 = .slice al log.length cl ∧ f 2 = .int .i64 now ∧ f 3 = .pointer (some ⟨b3, 0, none⟩) ∧ f 6 = .slice none 0 0 ∧ f 8 = .pointer (some ⟨bb, 0, none⟩) ∧ f 9 = .slice (some ⟨b60, 0, none⟩) t.towns.length t.towns.length ∧ f 10 = .pointer (some ⟨b10, 0, none⟩) ∧ f 79 = .slice al log.length cl ∧ f 80 = .int .i64 (log.length : Int) ∧ f 81 = .int .i64 (k : Int) ∧ StX [] w0 w [blk b10 [.slice (some ⟨b64, 0, none⟩) t.chans.length t.chans.length] 34, blk b60 ((ls).flatMap Bx.encI) 3, blk b64 ((rs).flatMap Bx.encI) 3] ∧ (k ≤ log.length) ∧ (ls.length = t.towns.length) ∧ (rs.length = t.chans.length) ∧ (∀ j : Nat, j < t.towns.length → ls[j]? = some (lastF (log.take k) (j : Int))) ∧ (∀ j : Nat, j < t.chans.length → rs[j]? = some (roomF t (log.take k) now (j : Int))) ∧ zz = log.length - k) _ ⟨_, rfl, 0, List.replicate t.towns.length 0, rs, h1, h2, h3, h6, h8, h9, h10, rfl, rfl, rfl, (by rw [← flat_rep (enc := Bx.encI) (z := 0) (zs := [.int .i64 0]) rfl]; exact hS), (Nat.zero_le _), (by simp), (hrl), (fun j hj => by rw [List.getElem?_replicate, if_pos hj]; rfl), (fun j hj => by rw [hR j hj, if_pos hj, List.take_zero, roomF_nil]), rfl⟩ ?_
            clear hS
            rintro f w _ ⟨k, ls, rs, h1, h2, h3, h6, h8, h9, h10, h79, h80, h81, hS, hk, hll, hrl, hL, hR, rfl⟩
            refine seq ?_
            refine region ?_
            refine sv (yLss h81 h80) ?_
            refine nil ?_
            show Code.wp _ _ _ _ _
            refine seq ?_
            refine cond rfl (fun c82 => ?_) (fun c82 => ?_)
            ·
              simp only [Bool.and_eq_true, Bool.or_eq_true, Bool.and_eq_false_iff, Bool.or_eq_false_iff, decide_eq_true_eq, decide_eq_false_iff_not, Bool.not_eq_true, Bool.not_eq_false, Bool.not_not, Bool.not_eq_eq_eq_not, Bool.not_true, Bool.not_false, Bool.false_eq_true, Bool.true_eq_false, ne_eq, Decidable.not_not, not_false_eq_true, not_true_eq_false] at c82
              obtain ⟨x, hx, -⟩ := drop_of (l := log) (k := k) (by omega)
              obtain ⟨bx, ox, csx, hax, hlx, hcsx, hRx, -⟩ := sl_at sL hx
              obtain ⟨rfl, -⟩ := hRx
              have hxm := hmo x (List.mem_of_getElem? hx)
              have hxt := hxm.town
              have hxc := hxm.chan
              have hRc := at_i (f := fun j => roomF t (log.take k) now j) hR hxc
              have hrb := roomF_bd hok hxc (log.take k) now
              have htk : (log.take k).length ≤ k := by simp; omega
              refine skip ?_
              show Code.wp _ _ _ _ _
              refine seq ?_
              refine block ?_
              refine seq ?_
              refine region ?_
              refine sv (yIxa h79 hax h81 Tryz.runUnderlying62 Tryz.sizeOf70 (by omega) (by omega)) ?_
              refine sv (yLdA rfl Tryz.isAgg70 Tryz.sizeOf70 (hcsx.ext hS.ext) rfl) ?_
              refine salloc hS Tryz.zeroValue70 rfl ?_; clear hS; intro b14 w hS
              refine sst hS rfl rfl Tryz.sizeOf70 rfl rfl rfl rfl ?_; clear hS; intro w hS
              refine nil ?_
              show Code.wp _ _ _ _ _
              refine seq ?_
              refine region ?_
              refine sv (yMove h9) ?_
              refine sv (fa70_1 rfl) ?_
              refine sv (yLdB rfl Tryz.isAgg3 (hS.at _) rfl) ?_
              refine sv (fa70_2 rfl) ?_
              refine sv (yLdB rfl Tryz.isAgg3 (hS.at _) rfl) ?_
              refine sv (yIx0 (m := x.town.toNat) rfl (rfl.trans (congrArg (Value.int .i64) (by omega))) Tryz.runUnderlying34 Tryz.sizeOf3 (by omega)) ?_
              refine sst hS rfl rfl Tryz.sizeOf3 rfl rfl (by rw [Nat.ble_eq, flat_len encI_len]; simp; omega) rfl ?_; clear hS; intro w hS
              refine nil ?_
              show Code.wp _ _ _ _ _
              refine seq ?_
              refine region ?_
              refine sv (fa70_4 rfl) ?_
              refine sv (yLdB rfl Tryz.isAgg3 (hS.at _) rfl) ?_
              refine sv (yMove h2) ?_
              refine sv (yEql rfl rfl) ?_
              refine nil ?_
              show Code.wp _ _ _ _ _
              refine cond rfl (fun c94 => ?_) (fun c94 => ?_)
              ·
                simp only [Bool.and_eq_true, Bool.or_eq_true, Bool.and_eq_false_iff, Bool.or_eq_false_iff, decide_eq_true_eq, decide_eq_false_iff_not, Bool.not_eq_true, Bool.not_eq_false, Bool.not_not, Bool.not_eq_eq_eq_not, Bool.not_true, Bool.not_false, Bool.false_eq_true, Bool.true_eq_false, ne_eq, Decidable.not_not, not_false_eq_true, not_true_eq_false] at c94
                refine region ?_
                refine sv (yLdB h10 Tryz.isAgg34 (hS.at _) rfl) ?_
                refine sv (fa70_3 rfl) ?_
                refine sv (yLdB rfl Tryz.isAgg3 (hS.at _) rfl) ?_
                refine sv (yIx0 (m := x.channel.toNat) rfl (rfl.trans (congrArg (Value.int .i64) (by omega))) Tryz.runUnderlying34 Tryz.sizeOf3 (by omega)) ?_
                refine sv (yLd rfl Tryz.isAgg3 ((flat_cells0 (enc := Bx.encI) encI_len (blk_cells (hS.at b64)) hRc).one)) ?_
                refine sv (ySub rfl rfl ⟨by omega, by omega⟩) ?_
                refine sv (yIx0 (m := x.channel.toNat) rfl (rfl.trans (congrArg (Value.int .i64) (by omega))) Tryz.runUnderlying34 Tryz.sizeOf3 (by omega)) ?_
                refine sst hS rfl rfl Tryz.sizeOf3 rfl rfl (by rw [Nat.ble_eq, flat_len encI_len]; simp; omega) rfl ?_; clear hS; intro w hS
                refine nil ?_
                show Code.wp _ _ _ _ _
                refine region ?_
                refine sv (yAdd h81 rfl ⟨by omega, by omega⟩) ?_
                refine sv (yMove rfl) ?_
                refine nil ?_
                exact ⟨_, _, rfl, ⟨k + 1, ls.set x.town.toNat x.stage, rs.set x.channel.toNat (roomF t (log.take k) now x.channel - 1), h1, h2, h3, h6, h8, h9, h10, h79, h80, rfl, (by rw [← splice_enc encI_len rs x.channel.toNat _ (by omega), ← splice_enc encI_len ls x.town.toNat _ (by omega)]; exact hS.sub (.cons _ (List.Sublist.refl _))), (by omega), (by simp [hll]), (by simp [hrl]), (last_step hx hll hxt hL), (by rw [take_snoc hx]; exact room_step hrl hxc c94 hR), rfl⟩, by omega⟩
              ·
                simp only [Bool.and_eq_true, Bool.or_eq_true, Bool.and_eq_false_iff, Bool.or_eq_false_iff, decide_eq_true_eq, decide_eq_false_iff_not, Bool.not_eq_true, Bool.not_eq_false, Bool.not_not, Bool.not_eq_eq_eq_not, Bool.not_true, Bool.not_false, Bool.false_eq_true, Bool.true_eq_false, ne_eq, Decidable.not_not, not_false_eq_true, not_true_eq_false] at c94
                refine skip ?_
                show Code.wp _ _ _ _ _
                refine region ?_
                refine sv (yAdd h81 rfl ⟨by omega, by omega⟩) ?_
                refine sv (yMove rfl) ?_
                refine nil ?_
                exact ⟨_, _, rfl, ⟨k + 1, ls.set x.town.toNat x.stage, rs, h1, h2, h3, h6, h8, h9, h10, h79, h80, rfl, (by rw [← splice_enc encI_len ls x.town.toNat _ (by omega)]; exact hS.sub (.cons _ (List.Sublist.refl _))), (by omega), (by simp [hll]), (hrl), (last_step hx hll hxt hL), (by rw [take_snoc hx]; exact room_keep c94 hR), rfl⟩, by omega⟩
            ·
              simp only [Bool.and_eq_true, Bool.or_eq_true, Bool.and_eq_false_iff, Bool.or_eq_false_iff, decide_eq_true_eq, decide_eq_false_iff_not, Bool.not_eq_true, Bool.not_eq_false, Bool.not_not, Bool.not_eq_eq_eq_not, Bool.not_true, Bool.not_false, Bool.false_eq_true, Bool.true_eq_false, ne_eq, Decidable.not_not, not_false_eq_true, not_true_eq_false] at c82
              obtain rfl : k = log.length := by omega
              rw [List.take_length] at hL hR
              refine exit ?_
              show Code.wp _ _ _ _ _
              refine seq ?_
              refine region ?_
              refine sv (yAsg rfl) ?_
              refine sv (yAsg rfl) ?_
              refine nil ?_
              show Code.wp _ _ _ _ _
              refine seq ?_
              refine seq ?_
              refine region ?_
              refine sv (yMove h9) ?_
              refine sv (yLen rfl Tryz.underlying34) ?_
              refine sv (yMove rfl) ?_
              refine nil ?_
              show Code.wp _ _ _ _ _
              refine block ?_
              refine loop (fun f w zz => ∃ (k : Nat) (vu vd : Value), f 1 = .slice al log.length cl ∧ f 2 = .int .i64 now ∧ f 3 = .pointer (some ⟨b3, 0, none⟩) ∧ f 6 = .slice none 0 0 ∧ f 8 = .pointer (some ⟨bb, 0, none⟩) ∧ f 9 = .slice (some ⟨b60, 0, none⟩) t.towns.length t.towns.length ∧ f 10 = .pointer (some ⟨b10, 0, none⟩) ∧ f 15 = vu ∧ f 16 = vd ∧ f 103 = .slice (some ⟨b60, 0, none⟩) t.towns.length t.towns.length ∧ f 104 = .int .i64 (t.towns.length : Int) ∧ f 105 = .int .i64 (k : Int) ∧ StX [] w0 w [rowI vu 3 1 (upK t log now k).length ((upK t log now k).flatMap Bx.encI), rowI vd 3 1 (downK t log now k).length ((downK t log now k).flatMap Bx.encI), blk b10 [.slice (some ⟨b64, 0, none⟩) t.chans.length t.chans.length] 34, blk b60 ((ls).flatMap Bx.encI) 3, blk b64 ((rs).flatMap Bx.encI) 3] ∧ (k ≤ t.towns.length) ∧ zz = t.towns.length - k) _ ⟨_, rfl, 0, _, _, h1, h2, h3, h6, h8, h9, h10, rfl, rfl, rfl, rfl, rfl, ((hS.nilrow 3 1).nilrow 3 1), (Nat.zero_le _), rfl⟩ ?_
              clear hS
              rintro f w _ ⟨k, vu, vd, h1, h2, h3, h6, h8, h9, h10, h15, h16, h103, h104, h105, hS, hk, rfl⟩
              refine seq ?_
              refine region ?_
              refine sv (yLss h105 h104) ?_
              refine nil ?_
              show Code.wp _ _ _ _ _
              refine seq ?_
              refine cond rfl (fun c106 => ?_) (fun c106 => ?_)
              ·
                simp only [Bool.and_eq_true, Bool.or_eq_true, Bool.and_eq_false_iff, Bool.or_eq_false_iff, decide_eq_true_eq, decide_eq_false_iff_not, Bool.not_eq_true, Bool.not_eq_false, Bool.not_not, Bool.not_eq_eq_eq_not, Bool.not_true, Bool.not_false, Bool.false_eq_true, Bool.true_eq_false, ne_eq, Decidable.not_not, not_false_eq_true, not_true_eq_false] at c106
                have hkn : k < t.towns.length := by omega
                have hi : 0 ≤ (k : Int) ∧ (k : Int) < t.towns.length := by omega
                have hul := upK_len t log now k
                have hdl := downK_len t log now k
                refine skip ?_
                show Code.wp _ _ _ _ _
                refine seq ?_
                refine block ?_
                refine seq ?_
                refine region ?_
                refine sv (yMove h105) ?_
                refine sv (yIx0 (m := k) h103 (h105) Tryz.runUnderlying34 Tryz.sizeOf3 (by omega)) ?_
                refine sv (yLd rfl Tryz.isAgg3 ((flat_cells0 (enc := Bx.encI) encI_len (blk_cells (hS.at b60)) (hL k hkn)).one)) ?_
                refine sv (yAsg rfl) ?_
                refine sv (yAsg rfl) ?_
                refine nil ?_
                show Code.wp _ _ _ _ _
                refine seq ?_
                refine region ?_
                refine sv (yMove h8) ?_
                refine sv (yMove rfl) ?_
                refine sv (yMove h2) ?_
                refine scall Tryz.call72 (.cons rfl (.cons rfl (.cons rfl .nil))) (c_stage (hB.ext hS.ext) hi) ?_
                rintro _ w ⟨rfl, hE⟩; replace hS := hS.step hE; clear hE
                refine sv (yAsg rfl) ?_
                refine nil ?_
                show Code.wp _ _ _ _ _
                refine block ?_
                refine seq ?_
                refine region ?_
                refine sv (yMove rfl) ?_
                refine sv (yMove rfl) ?_
                refine sv (yGtr rfl rfl) ?_
                refine sv (yAsg rfl) ?_
                refine nil ?_
                show Code.wp _ _ _ _ _
                refine cond rfl (fun c114 => ?_) (fun c114 => ?_)
                ·
                  simp only [Bool.and_eq_true, Bool.or_eq_true, Bool.and_eq_false_iff, Bool.or_eq_false_iff, decide_eq_true_eq, decide_eq_false_iff_not, Bool.not_eq_true, Bool.not_eq_false, Bool.not_not, Bool.not_eq_eq_eq_not, Bool.not_true, Bool.not_false, Bool.false_eq_true, Bool.true_eq_false, ne_eq, Decidable.not_not, not_false_eq_true, not_true_eq_false] at c114
                  refine region ?_
                  refine sv (yMove h15) ?_
                  refine sv (yMove rfl) ?_
                  refine sbslice hS Tryz.underlying34 Tryz.sizeOf3 rfl Tryz.zeroValue3 rfl (.cons rfl rfl .nil) rfl ?_; clear hS; intro b120 w hS
                  refine sapp (bytes := 8) (size := 1) (v := vu) (m := 1) hS rfl rfl Tryz.underlying34 ti3 rfl rfl rfl rfl (by decide) (blk_cells (hS.at _)) rfl rfl (by omega) (by omega) ?_; clear hS; intro v121 w hS
                  refine sv (yAsg rfl) ?_
                  refine nil ?_
                  show Code.wp _ _ _ _ _
                  refine region ?_
                  refine sv (yAdd h105 rfl ⟨by omega, by omega⟩) ?_
                  refine sv (yMove rfl) ?_
                  refine nil ?_
                  exact ⟨_, _, rfl, ⟨k + 1, _, _, h1, h2, h3, h6, h8, h9, h10, rfl, h16, h103, h104, rfl, (by rw [show upK t log now (k + 1) = upK t log now k ++ [(k : Int)] from filt_in (p := fun i => decide (lastF log i < stageF t i now)) hkn (decide_eq_true c114), show downK t log now (k + 1) = downK t log now k from filt_out (p := fun i => decide (stageF t i now < lastF log i)) hkn (decide_eq_false (by omega)), List.flatMap_append, List.length_append]; exact hS.sub (.cons _ (List.Sublist.refl _))), (by omega), rfl⟩, by omega⟩
                ·
                  simp only [Bool.and_eq_true, Bool.or_eq_true, Bool.and_eq_false_iff, Bool.or_eq_false_iff, decide_eq_true_eq, decide_eq_false_iff_not, Bool.not_eq_true, Bool.not_eq_false, Bool.not_not, Bool.not_eq_eq_eq_not, Bool.not_true, Bool.not_false, Bool.false_eq_true, Bool.true_eq_false, ne_eq, Decidable.not_not, not_false_eq_true, not_true_eq_false] at c114
                  refine seq ?_
                  refine region ?_
                  refine sv (yMove rfl) ?_
                  refine sv (yMove rfl) ?_
                  refine sv (yLss rfl rfl) ?_
                  refine sv (yAsg rfl) ?_
                  refine nil ?_
                  show Code.wp _ _ _ _ _
                  refine cond rfl (fun c122 => ?_) (fun c122 => ?_)
                  ·
                    simp only [Bool.and_eq_true, Bool.or_eq_true, Bool.and_eq_false_iff, Bool.or_eq_false_iff, decide_eq_true_eq, decide_eq_false_iff_not, Bool.not_eq_true, Bool.not_eq_false, Bool.not_not, Bool.not_eq_eq_eq_not, Bool.not_true, Bool.not_false, Bool.false_eq_true, Bool.true_eq_false, ne_eq, Decidable.not_not, not_false_eq_true, not_true_eq_false] at c122
                    refine region ?_
                    refine sv (yMove h16) ?_
                    refine sv (yMove rfl) ?_
                    refine sbslice hS Tryz.underlying34 Tryz.sizeOf3 rfl Tryz.zeroValue3 rfl (.cons rfl rfl .nil) rfl ?_; clear hS; intro b128 w hS
                    refine sapp (bytes := 8) (size := 1) (v := vd) (m := 1) hS rfl rfl Tryz.underlying34 ti3 rfl rfl rfl rfl (by decide) (blk_cells (hS.at _)) rfl rfl (by omega) (by omega) ?_; clear hS; intro v129 w hS
                    refine sv (yAsg rfl) ?_
                    refine nil ?_
                    show Code.wp _ _ _ _ _
                    refine region ?_
                    refine sv (yAdd h105 rfl ⟨by omega, by omega⟩) ?_
                    refine sv (yMove rfl) ?_
                    refine nil ?_
                    exact ⟨_, _, rfl, ⟨k + 1, _, _, h1, h2, h3, h6, h8, h9, h10, h15, rfl, h103, h104, rfl, (by rw [show upK t log now (k + 1) = upK t log now k from filt_out (p := fun i => decide (lastF log i < stageF t i now)) hkn (decide_eq_false c114), show downK t log now (k + 1) = downK t log now k ++ [(k : Int)] from filt_in (p := fun i => decide (stageF t i now < lastF log i)) hkn (decide_eq_true c122), List.flatMap_append, List.length_append]; exact hS.sub (.cons _ (List.Sublist.refl _))), (by omega), rfl⟩, by omega⟩
                  ·
                    simp only [Bool.and_eq_true, Bool.or_eq_true, Bool.and_eq_false_iff, Bool.or_eq_false_iff, decide_eq_true_eq, decide_eq_false_iff_not, Bool.not_eq_true, Bool.not_eq_false, Bool.not_not, Bool.not_eq_eq_eq_not, Bool.not_true, Bool.not_false, Bool.false_eq_true, Bool.true_eq_false, ne_eq, Decidable.not_not, not_false_eq_true, not_true_eq_false] at c122
                    refine skip ?_
                    show Code.wp _ _ _ _ _
                    refine region ?_
                    refine sv (yAdd h105 rfl ⟨by omega, by omega⟩) ?_
                    refine sv (yMove rfl) ?_
                    refine nil ?_
                    exact ⟨_, _, rfl, ⟨k + 1, _, _, h1, h2, h3, h6, h8, h9, h10, h15, h16, h103, h104, rfl, (by rw [show upK t log now (k + 1) = upK t log now k from filt_out (p := fun i => decide (lastF log i < stageF t i now)) hkn (decide_eq_false c114), show downK t log now (k + 1) = downK t log now k from filt_out (p := fun i => decide (stageF t i now < lastF log i)) hkn (decide_eq_false c122)]; exact hS), (by omega), rfl⟩, by omega⟩
              ·
                simp only [Bool.and_eq_true, Bool.or_eq_true, Bool.and_eq_false_iff, Bool.or_eq_false_iff, decide_eq_true_eq, decide_eq_false_iff_not, Bool.not_eq_true, Bool.not_eq_false, Bool.not_not, Bool.not_eq_eq_eq_not, Bool.not_true, Bool.not_false, Bool.false_eq_true, Bool.true_eq_false, ne_eq, Decidable.not_not, not_false_eq_true, not_true_eq_false] at c106
                obtain rfl : k = t.towns.length := by omega
                rw [upK_end, downK_end] at hS
                have hul := upK_len t log now t.towns.length
                have hdl := downK_len t log now t.towns.length
                rw [upK_end] at hul
                rw [downK_end] at hdl
                obtain ⟨au, cu, rfl⟩ := row_shape (hS.row vu)
                obtain ⟨ad, cd, rfl⟩ := row_shape (hS.row vd)
                refine exit ?_
                show Code.wp _ _ _ _ _
                refine seq ?_
                refine seq ?_
                refine region ?_
                refine sv (yMove h15) ?_
                refine sv (yMove h8) ?_
                refine sv (yFnB (.cons rfl .nil)) ?_
                refine scall Tryz.call75 (.cons rfl (.cons rfl .nil)) (c_sorted (fk := fun i => (arr t i).1.lo) (hS.row (.slice au (upL t log now).length cu)) Tryz.call76 (fun x w hx e => c_first (hB.ext (e.oldR hS)) (upL_mem hx)) (by omega)) ?_
                rintro _ w ⟨rfl, hM⟩
                replace hS := hS.app (v := .slice au (upL t log now).length cu) (v' := .slice au (upL t log now).length cu) (hM.row _) hM.grown (.inl rfl)
                clear hM
                refine sv (yMove h16) ?_
                refine sappS (bytes := 8) (size := 1) hS rfl rfl Tryz.underlying34 ti3 rfl rfl rfl rfl (by decide) Tryz.sizeOf3 (fun hh => by obtain ⟨bd, e1, e2⟩ := row_get (hS.row (.slice ad (downL t log now).length cd)) hh; exact ⟨bd, 0, e1, e2⟩) (by rw [flat_len encI_len]) (ints_one _) (by omega) (by omega) ?_; clear hS; intro v136 w hS
                rw [← ordL_len, ← List.flatMap_append] at hS
                replace hS : StX [] w0 w [rowI v136 3 1 (ordL t log now).length ((ordL t log now).flatMap Bx.encI), rowI (.slice ad (downL t log now).length cd) 3 1 (downL t log now).length ((downL t log now).flatMap Bx.encI), blk b10 [.slice (some ⟨b64, 0, none⟩) t.chans.length t.chans.length] 34, blk b60 ((ls).flatMap Bx.encI) 3, blk b64 ((rs).flatMap Bx.encI) 3] := hS
                obtain ⟨ao, co, rfl⟩ := row_shape (hS.row v136)
                refine sv (yLen rfl Tryz.underlying34) ?_
                refine sv (yMove rfl) ?_
                refine nil ?_
                show Code.wp _ _ _ _ _
                refine block ?_
                have hor := ordL_len t log now
                refine loop (fun f w zz => ∃ (k : Nat) (out : List Msg) (v : Value) (rs : List Int), f 1 = .slice al log.length cl ∧ f 2 = .int .i64 now ∧ f 3 = .pointer (some ⟨b3, 0, none⟩) ∧ f 6 = v ∧ f 8 = .pointer (some ⟨bb, 0, none⟩) ∧ f 10 = .pointer (some ⟨b10, 0, none⟩) ∧ f 136 = .slice ao (ordL t log now).length co ∧ f 137 = .int .i64 ((ordL t log now).length : Int) ∧ f 138 = .int .i64 (k : Int) ∧ StX [] w0 w [rowI v 70 5 (out).length ((out).flatMap msgC), rowI (.slice ao (ordL t log now).length co) 3 1 (ordL t log now).length ((ordL t log now).flatMap Bx.encI), blk b10 [.slice (some ⟨b64, 0, none⟩) t.chans.length t.chans.length] 34, blk b64 ((rs).flatMap Bx.encI) 3] ∧ (k ≤ (ordL t log now).length) ∧ (((ordL t log now).take k).foldl (nextStep t now) log = log ++ out) ∧ (rs.length = t.chans.length) ∧ (∀ j : Nat, j < t.chans.length → rs[j]? = some (roomF t (log ++ out) now (j : Int))) ∧ (out.length ≤ k) ∧ zz = (ordL t log now).length - k) _ ⟨_, rfl, 0, [], _, rs, h1, h2, h3, h6, h8, h10, rfl, rfl, rfl, ((hS.nilrow 70 5).sub (.cons_cons _ (.cons_cons _ (.cons _ (.cons_cons _ (.cons _ (List.Sublist.refl _))))))), (Nat.zero_le _), (by rw [List.append_nil]; rfl), (hrl), (by rw [List.append_nil]; exact hR), (Nat.le_refl _), rfl⟩ ?_
                clear hS
                rintro f w _ ⟨k, out, v, rs, h1, h2, h3, h6, h8, h10, h136, h137, h138, hS, hk, hA, hrl, hR, hol, rfl⟩
                refine seq ?_
                refine region ?_
                refine sv (yLss h138 h137) ?_
                refine nil ?_
                show Code.wp _ _ _ _ _
                refine seq ?_
                refine cond rfl (fun c139 => ?_) (fun c139 => ?_)
                ·
                  simp only [Bool.and_eq_true, Bool.or_eq_true, Bool.and_eq_false_iff, Bool.or_eq_false_iff, decide_eq_true_eq, decide_eq_false_iff_not, Bool.not_eq_true, Bool.not_eq_false, Bool.not_not, Bool.not_eq_eq_eq_not, Bool.not_true, Bool.not_false, Bool.false_eq_true, Bool.true_eq_false, ne_eq, Decidable.not_not, not_false_eq_true, not_true_eq_false] at c139
                  obtain ⟨am, cm, rfl⟩ := row_shape (hS.row v)
                  obtain ⟨i, hi, -⟩ := drop_of (l := ordL t log now) (k := k) (by omega)
                  have hib := ordL_mem (List.mem_of_getElem? hi)
                  obtain ⟨go, hao, -⟩ := row_get (hS.row (.slice ao (ordL t log now).length co)) (by omega)
                  obtain ⟨bt, ot, cst, hat, hlt, hcst, hRt, -⟩ := sl_at s2 (twn_i (t := t) hib)
                  obtain ⟨dvt, rfl, -, -, -, -, hslt, -⟩ := hRt
                  have hto := town_ok hok hib
                  have htl := hto.lead
                  have hch := chans_len hok hib
                  have hcl := canL_len hok hib (log ++ out) now
                  have hRc : ∀ c, 0 ≤ c ∧ c < (t.chans.length : Int) → rs[c.toNat]? = some (roomF t (log ++ out) now c) := fun c hc => at_i (f := fun j => roomF t (log ++ out) now j) hR hc
                  refine skip ?_
                  show Code.wp _ _ _ _ _
                  refine seq ?_
                  refine block ?_
                  refine seq ?_
                  refine region ?_
                  refine sv (yIxa h136 hao h138 Tryz.runUnderlying34 Tryz.sizeOf3 (by omega) (by omega)) ?_
                  refine sv (yLd rfl Tryz.isAgg3 ((flat_cells (enc := Bx.encI) encI_len (row_at (hS.row (.slice ao (ordL t log now).length co)) hao (by omega)) hi).one)) ?_
                  refine sv (yAsg rfl) ?_
                  refine nil ?_
                  show Code.wp _ _ _ _ _
                  refine seq ?_
                  refine region ?_
                  refine sv (fa26_2 h3) ?_
                  refine sv (yLdB rfl Tryz.isAgg23 (hS.ext.get hb3) rfl) ?_
                  refine sv (yMove rfl) ?_
                  refine sv (yIxa rfl hat rfl Tryz.runUnderlying23 Tryz.sizeOf36 (by omega) (by omega)) ?_
                  refine sv (fa36_4 rfl) ?_
                  refine sv (yLd rfl Tryz.isAgg34 ((hcst.ext hS.ext).at (j := 4) rfl)) ?_
                  obtain ⟨ac, cc, rfl, -⟩ := id hslt
                  refine scall Tryz.call86 (.cons rfl .nil) (c_CloneI (hslt.ext RInt.stays hS.ext) (by omega)) ?_
                  rintro v148 w hM; replace hS := hS.call1 hM; clear hM
                  obtain ⟨ak, ck, rfl⟩ := row_shape (hS.row v148)
                  refine sv (yFn (.cons h10 .nil)) ?_
                  have hno1 : b10 ∉ (Value.slice ak (twn t i).chans.length ck).ownBlock.toList := hS.notR (by simp [fps, cellI])
                  have hno2 : b64 ∉ (Value.slice ak (twn t i).chans.length ck).ownBlock.toList := hS.notR (by simp [fps, cellI])
                  refine scall Tryz.call85 (.cons rfl (.cons rfl .nil)) (c_DeleteI (p := fun c => decide (roomF t (log ++ out) now c ≤ 0)) (hS.row (.slice ak (twn t i).chans.length ck)) Tryz.call87 (fun c w hc e => c_Next1 (l := rs) (by rw [hrl]; exact e.get (hS.at b10) hno1) (e.get (hS.at b64) hno2) (hto.chans c hc).1 (hRc c (hto.chans c hc))) (fun c hc => by have := hto.chans c hc; constructor <;> omega) (by omega)) ?_
                  rintro u w ⟨hu, hM⟩
                  replace hu : u = .slice ak (canL t (log ++ out) now i).length ck := hu
                  subst hu
                  replace hM : StX (Value.slice ak (twn t i).chans.length ck).ownBlock.toList _ w [rowI (.slice ak (canL t (log ++ out) now i).length ck) 3 1 (canL t (log ++ out) now i).length ((canL t (log ++ out) now i).flatMap Bx.encI)] := hM
                  replace hS := hS.app (v := .slice ak (twn t i).chans.length ck) (v' := .slice ak (canL t (log ++ out) now i).length ck) (hM.row _) hM.grown (.inl own_slice)
                  clear hM
                  replace hS : StX [] w0 w [rowI (.slice ak (canL t (log ++ out) now i).length ck) 3 1 (canL t (log ++ out) now i).length ((canL t (log ++ out) now i).flatMap Bx.encI), rowI (.slice am out.length cm) 70 5 (out).length ((out).flatMap msgC), rowI (.slice ao (ordL t log now).length co) 3 1 (ordL t log now).length ((ordL t log now).flatMap Bx.encI), blk b10 [.slice (some ⟨b64, 0, none⟩) t.chans.length t.chans.length] 34, blk b64 ((rs).flatMap Bx.encI) 3] := hS
                  refine sv (yAsg rfl) ?_
                  refine nil ?_
                  show Code.wp _ _ _ _ _
                  refine seq ?_
                  refine seq ?_
                  refine region ?_
                  refine sv (yMove rfl) ?_
                  refine sv (yLen rfl Tryz.underlying34) ?_
                  refine sv (yEql rfl rfl) ?_
                  refine nil ?_
                  show Code.wp _ _ _ _ _
                  refine cond rfl (fun c153 => ?_) (fun c153 => ?_)
                  ·
                    simp only [Bool.and_eq_true, Bool.or_eq_true, Bool.and_eq_false_iff, Bool.or_eq_false_iff, decide_eq_true_eq, decide_eq_false_iff_not, Bool.not_eq_true, Bool.not_eq_false, Bool.not_not, Bool.not_eq_eq_eq_not, Bool.not_true, Bool.not_false, Bool.false_eq_true, Bool.true_eq_false, ne_eq, Decidable.not_not, not_false_eq_true, not_true_eq_false] at c153
                    refine exit ?_
                    show Code.wp _ _ _ _ _
                    refine region ?_
                    refine sv (yAdd h138 rfl ⟨by omega, by omega⟩) ?_
                    refine sv (yMove rfl) ?_
                    refine nil ?_
                    exact ⟨_, _, rfl, ⟨k + 1, out, _, rs, h1, h2, h3, h6, h8, h10, h136, h137, rfl, (hS.sub (.cons _ (List.Sublist.refl _))), (by omega), (fold_none hi hA (step_none (by omega))), (hrl), (hR), (by omega), rfl⟩, by omega⟩
                  ·
                    simp only [Bool.and_eq_true, Bool.or_eq_true, Bool.and_eq_false_iff, Bool.or_eq_false_iff, decide_eq_true_eq, decide_eq_false_iff_not, Bool.not_eq_true, Bool.not_eq_false, Bool.not_not, Bool.not_eq_eq_eq_not, Bool.not_true, Bool.not_false, Bool.false_eq_true, Bool.true_eq_false, ne_eq, Decidable.not_not, not_false_eq_true, not_true_eq_false] at c153
                    refine skip ?_
                    show Code.wp _ _ _ _ _
                    refine seq ?_
                    refine region ?_
                    refine sv (yMove rfl) ?_
                    refine sv (yFn (.cons h3 .nil)) ?_
                    obtain ⟨c, hc0⟩ : ∃ c, (sortV (fun c => (chn t c).delay) (canL t (log ++ out) now i))[0]? = some c := ⟨_, List.getElem?_eq_getElem (by rw [sortV_len]; omega)⟩
                    have hcm := canL_mem ((sortV_perm _ _).mem_iff.1 (List.mem_of_getElem? hc0))
                    have hcb := hto.chans c hcm
                    have hrb := roomF_bd hok hcb (log ++ out) now
                    have hal : ((log ++ out)).length = log.length + out.length := List.length_append
                    refine scall Tryz.call75 (.cons rfl (.cons rfl .nil)) (c_sorted (fk := fun c => (chn t c).delay) (hS.row (.slice ak (canL t (log ++ out) now i).length ck)) Tryz.call88 (fun c w hc e => c_Next2 ((e.oldR hS).get hb3) (s1.ext RChan.stays (e.oldR hS)) (hto.chans c (canL_mem hc))) (by omega)) ?_
                    rintro _ w ⟨rfl, hM⟩
                    replace hS := hS.app (v := .slice ak (canL t (log ++ out) now i).length ck) (v' := .slice ak (canL t (log ++ out) now i).length ck) (hM.row _) hM.grown (.inl rfl)
                    clear hM
                    obtain ⟨gk, hak, -⟩ := row_get (hS.row (.slice ak (canL t (log ++ out) now i).length ck)) (by omega)
                    refine sv (yIxa rfl hak rfl Tryz.runUnderlying34 Tryz.sizeOf3 (by omega) (by omega)) ?_
                    refine sv (yLd rfl Tryz.isAgg3 ((flat_cells (enc := Bx.encI) encI_len (row_at (hS.row (.slice ak (canL t (log ++ out) now i).length ck)) hak (by omega)) hc0).one)) ?_
                    refine sv (yAsg rfl) ?_
                    refine nil ?_
                    show Code.wp _ _ _ _ _
                    refine seq ?_
                    refine region ?_
                    refine sv (yLdB h10 Tryz.isAgg34 (hS.at _) rfl) ?_
                    refine sv (yMove rfl) ?_
                    refine sv (yIx0 (m := c.toNat) rfl (rfl.trans (congrArg (Value.int .i64) (by omega))) Tryz.runUnderlying34 Tryz.sizeOf3 (by omega)) ?_
                    refine sv (yLd rfl Tryz.isAgg3 ((flat_cells0 (enc := Bx.encI) encI_len (blk_cells (hS.at b64)) (hRc c hcb)).one)) ?_
                    refine sv (ySub rfl rfl ⟨by omega, by omega⟩) ?_
                    refine sv (yIx0 (m := c.toNat) rfl (rfl.trans (congrArg (Value.int .i64) (by omega))) Tryz.runUnderlying34 Tryz.sizeOf3 (by omega)) ?_
                    refine sst hS rfl rfl Tryz.sizeOf3 rfl rfl (by rw [Nat.ble_eq, flat_len encI_len]; simp; omega) rfl ?_; clear hS; intro w hS
                    refine nil ?_
                    show Code.wp _ _ _ _ _
                    refine region ?_
                    refine sv (yMove h6) ?_
                    refine sv (yMove h1) ?_
                    refine sv (yLen rfl Tryz.underlying62) ?_
                    refine sv (yMove h6) ?_
                    refine sv (yLen rfl Tryz.underlying62) ?_
                    refine sv (yAdd rfl rfl ⟨by omega, by omega⟩) ?_
                    refine sv (yAdd rfl rfl ⟨by omega, by omega⟩) ?_
                    refine sv (yMove rfl) ?_
                    refine sv (yMove h8) ?_
                    refine sv (yMove rfl) ?_
                    refine sv (yMove h2) ?_
                    refine scall Tryz.call72 (.cons rfl (.cons rfl (.cons rfl .nil))) (c_stage (hB.ext hS.ext) hib) ?_
                    rintro _ w ⟨rfl, hE⟩; replace hS := hS.step hE; clear hE
                    refine sv (yMove rfl) ?_
                    refine sv (yMove h2) ?_
                    refine sv (yBuild Tryz.zeroValue70 rfl pl70 (.cons rfl rfl (.cons rfl rfl (.cons rfl rfl (.cons rfl rfl (.cons rfl rfl .nil))))) rfl) ?_
                    refine sbslice hS Tryz.underlying62 Tryz.sizeOf70 rfl Tryz.zeroValue70 rfl (.cons rfl rfl .nil) rfl ?_; clear hS; intro b180 w hS
                    refine sapp (bytes := 40) (size := 5) (v := (.slice am out.length cm)) (m := 1) hS rfl rfl Tryz.underlying62 ti70 rfl rfl rfl rfl (by decide) (blk_cells (hS.at _)) rfl rfl (by omega) (by omega) ?_; clear hS; intro v181 w hS
                    refine sv (yAsg rfl) ?_
                    refine nil ?_
                    show Code.wp _ _ _ _ _
                    refine region ?_
                    refine sv (yAdd h138 rfl ⟨by omega, by omega⟩) ?_
                    refine sv (yMove rfl) ?_
                    refine nil ?_
                    exact ⟨_, _, rfl, ⟨k + 1, out ++ [msgF t (log ++ out) now i c], _, rs.set c.toNat (roomF t (log ++ out) now c - 1), h1, h2, h3, rfl, h8, h10, h136, h137, rfl, (by rw [← splice_enc encI_len rs c.toNat _ (by omega), List.flatMap_append, List.length_append]; simp only [List.flatMap_cons, List.flatMap_nil, List.append_nil, msgC, msgF, List.length_append, Int.natCast_add, List.length_singleton]; exact hS.sub (.cons _ (.cons _ (List.Sublist.refl _)))), (by omega), (fold_some hi hA (step_some hc0)), (by simp [hrl]), (by rw [← List.append_assoc]; exact room_step (x := msgF t (log ++ out) now i c) hrl hcb rfl hR), (by simp; omega), rfl⟩, by omega⟩
                ·
                  simp only [Bool.and_eq_true, Bool.or_eq_true, Bool.and_eq_false_iff, Bool.or_eq_false_iff, decide_eq_true_eq, decide_eq_false_iff_not, Bool.not_eq_true, Bool.not_eq_false, Bool.not_not, Bool.not_eq_eq_eq_not, Bool.not_true, Bool.not_false, Bool.false_eq_true, Bool.true_eq_false, ne_eq, Decidable.not_not, not_false_eq_true, not_true_eq_false] at c139
                  refine exit ?_
                  show Code.wp _ _ _ _ _
                  refine seq ?_
                  refine region ?_
                  refine sv (yMove h6) ?_
                  refine sv (yAsg rfl) ?_
                  refine sv (yAsg rfl) ?_
                  refine nil ?_
                  show Code.wp _ _ _ _ _
                  refine wp_ret ?_
                  refine retQ (res2 rfl rfl rfl) ?_
                  obtain rfl : k = (ordL t log now).length := by omega
                  have hnf := next_end hA
                  have hf : nextR t log now = (out, 0) := by unfold nextR; rw [hE1, if_neg (by decide), hnf]
                  rw [hf]
                  exact ⟨v, rfl, StX.base hE0 (hS.sub (.cons_cons _ (List.nil_sublist _)))⟩
    ·
      exact absurd c30 (by decide)
end Go.Proofs.YtmoilbakmlekbaaGreatDoor
/- part A16 -/
namespace Bx
open Go Go.RowKit
def exC1 : Chan := ⟨⟨#[115, 105, 114, 101, 110]⟩, 0, 1⟩
def exC2 : Chan := ⟨⟨#[114, 97, 100, 105, 111]⟩, 2, 2⟩
def exT1 : Town := ⟨⟨#[100, 105, 107, 101]⟩, 0, 3, 4, [0, 1]⟩
def exT2 : Town := ⟨⟨#[109, 105, 108, 108]⟩, 0, 5, 6, [0]⟩
def exT3 : Town := ⟨⟨#[104, 105, 108, 108]⟩, 1, 0, 10, [1]⟩
def exT : Task := ⟨2, [exC1, exC2], [exT1, exT2, exT3], [[20, -1], [24, 40]]⟩
def exL : List Msg := [⟨1, 0, 2, 0, 18⟩, ⟨2, 2, 1, 1, 18⟩]
def exS1 : Slot := ⟨0, 0, 18⟩
def exS2 : Slot := ⟨1, 0, 19⟩
def exS3 : Slot := ⟨2, 1, 18⟩
theorem ex_plan : planR exT 18 = ([exS1, exS2, exS3], 0) := by decide +kernel
theorem ex_next : nextR exT [] 18 = (exL, 0) := by decide +kernel
theorem ex_stage : stageR exT 3 0 = (0, 4) := by decide +kernel
def RSlot (_ : World) (cs : List Value) (s : Slot) : Prop := cs = slotC s ∧ I64 s.town ∧ I64 s.channel ∧ I64 s.sent
theorem RSlot.stays : Stays RSlot := fun _ _ _ _ _ h => h
abbrev MsgI (m : Msg) : Prop := I64 m.number ∧ I64 m.town ∧ I64 m.stage ∧ I64 m.channel ∧ I64 m.sent
abbrev SlotI (s : Slot) : Prop := I64 s.town ∧ I64 s.channel ∧ I64 s.sent
theorem sl_msgs {w : World} {e : TypeId} {v : Value} {n : Nat} {l : List Msg} (h : w.ownsRow 0 e 5 v n (l.flatMap msgC)) (hn : l.length = n) (hok : ∀ m ∈ l, MsgI m) : Sl w 5 RMsg v l := by
  subst hn
  exact row_sl msgC_len h fun m hm => hok m hm
theorem sl_slots {w : World} {e : TypeId} {v : Value} {n : Nat} {l : List Slot} (h : w.ownsRow 0 e 3 v n (l.flatMap slotC)) (hn : l.length = n) (hok : ∀ s ∈ l, SlotI s) : Sl w 3 RSlot v l := by
  subst hn
  exact row_sl slotC_len h fun m hm => hok m hm
end Bx
/- part Aw17 -/
namespace Go.Proofs.YtmoilbakmlekbaaGreatDoor
open Go Bx
set_option maxHeartbeats 2000000 in
/-- barrage/barragelaw11.Task -/
theorem c_Task {w0 : World} : CE Tryz.prog 42 #[] w0 (fun u w' => ∃ hv nv fv, u = .agg [.int .i64 exT.polders, hv, nv, fv].toArray ∧ RTask w' [.int .i64 exT.polders, hv, nv, fv] exT ∧ Ext w0 w') := by
  refine enter Tryz.func42 rfl Tryz.ntmps42 rfl ?_
  have hS := St.start w0
  refine seq ?_
  refine region ?_
  refine salloc hS Tryz.zeroValue26 rfl ?_; clear hS; intro b0 w hS
  refine nil ?_
  show Code.wp _ _ _ _ _
  refine seq ?_
  refine region ?_
  refine sv (yBuild Tryz.zeroValue41 rfl pl41 (.cons rfl rfl (.cons rfl rfl .nil)) rfl) ?_
  refine sv (yBuild Tryz.zeroValue41 rfl pl41 (.cons rfl rfl (.cons rfl rfl (.cons rfl rfl .nil))) rfl) ?_
  refine sbslice hS Tryz.underlying22 Tryz.sizeOf41 rfl Tryz.zeroValue41 rfl (.cons rfl rfl (.cons rfl rfl .nil)) rfl ?_; clear hS; intro b3 w hS
  refine sbslice hS Tryz.underlying34 Tryz.sizeOf3 rfl Tryz.zeroValue3 rfl (.cons rfl rfl (.cons rfl rfl .nil)) rfl ?_; clear hS; intro b4 w hS
  refine sv (yBuild Tryz.zeroValue36 rfl pl36 (.cons rfl rfl (.cons rfl rfl (.cons rfl rfl (.cons rfl rfl .nil)))) rfl) ?_
  refine sbslice hS Tryz.underlying34 Tryz.sizeOf3 rfl Tryz.zeroValue3 rfl (.cons rfl rfl .nil) rfl ?_; clear hS; intro b6 w hS
  refine sv (yBuild Tryz.zeroValue36 rfl pl36 (.cons rfl rfl (.cons rfl rfl (.cons rfl rfl (.cons rfl rfl .nil)))) rfl) ?_
  refine sbslice hS Tryz.underlying34 Tryz.sizeOf3 rfl Tryz.zeroValue3 rfl (.cons rfl rfl .nil) rfl ?_; clear hS; intro b8 w hS
  refine sv (yBuild Tryz.zeroValue36 rfl pl36 (.cons rfl rfl (.cons rfl rfl (.cons rfl rfl (.cons rfl rfl .nil)))) rfl) ?_
  refine sbslice hS Tryz.underlying23 Tryz.sizeOf36 rfl Tryz.zeroValue36 rfl (.cons rfl rfl (.cons rfl rfl (.cons rfl rfl .nil))) rfl ?_; clear hS; intro b10 w hS
  refine sbslice hS Tryz.underlying34 Tryz.sizeOf3 rfl Tryz.zeroValue3 rfl (.cons rfl rfl (.cons rfl rfl .nil)) rfl ?_; clear hS; intro b11 w hS
  refine sbslice hS Tryz.underlying34 Tryz.sizeOf3 rfl Tryz.zeroValue3 rfl (.cons rfl rfl (.cons rfl rfl .nil)) rfl ?_; clear hS; intro b12 w hS
  refine sbslice hS Tryz.underlying24 Tryz.sizeOf34 rfl Tryz.zeroValue34 rfl (.cons rfl rfl (.cons rfl rfl .nil)) rfl ?_; clear hS; intro b13 w hS
  refine sv (yBuild Tryz.zeroValue26 rfl pl26 (.cons rfl rfl (.cons rfl rfl (.cons rfl rfl (.cons rfl rfl .nil)))) rfl) ?_
  refine sst hS rfl rfl Tryz.sizeOf26 rfl rfl rfl rfl ?_; clear hS; intro w hS
  refine nil ?_
  show Code.wp _ _ _ _ _
  refine wp_ret ?_
  refine retQ (resV1 rfl (rc rfl Tryz.isAgg26 Tryz.sizeOf26 (hS.at b0) rfl rfl)) ?_
  exact ⟨_, _, _, rfl, ⟨_, _, _, rfl, by decide, (show Sl w 3 RChan (.slice (some ⟨b3, 0, none⟩) 2 2) ([exC1, exC2] : List Chan) from sl_of_blk (hS.at b3) (css := [[.string ⟨#[115, 105, 114, 101, 110]⟩, .int .i64 0, .int .i64 1], [.string ⟨#[114, 97, 100, 105, 111]⟩, .int .i64 2, .int .i64 2]]) (l := ([exC1, exC2] : List Chan)) rfl ⟨rfl, ⟨rfl, by decide, by decide, by decide⟩, rfl, ⟨rfl, by decide, by decide, by decide⟩, trivial⟩ (by decide) rfl), (show Sl w 5 RTown (.slice (some ⟨b10, 0, none⟩) 3 3) ([exT1, exT2, exT3] : List Town) from sl_of_blk (hS.at b10) (css := [[.string ⟨#[100, 105, 107, 101]⟩, .int .i64 0, .int .i64 3, .int .i64 4, .slice (some ⟨b4, 0, none⟩) 2 2], [.string ⟨#[109, 105, 108, 108]⟩, .int .i64 0, .int .i64 5, .int .i64 6, .slice (some ⟨b6, 0, none⟩) 1 1], [.string ⟨#[104, 105, 108, 108]⟩, .int .i64 1, .int .i64 0, .int .i64 10, .slice (some ⟨b8, 0, none⟩) 1 1]]) (l := ([exT1, exT2, exT3] : List Town)) rfl ⟨rfl, ⟨_, rfl, by decide, by decide, by decide, by decide, (ints_sl (l := [0, 1]) (hS.at b4) (by decide) (by decide)), (Nat.le_of_ble_eq_true rfl)⟩, rfl, ⟨_, rfl, by decide, by decide, by decide, by decide, (ints_sl (l := [0]) (hS.at b6) (by decide) (by decide)), (Nat.le_of_ble_eq_true rfl)⟩, rfl, ⟨_, rfl, by decide, by decide, by decide, by decide, (ints_sl (l := [1]) (hS.at b8) (by decide) (by decide)), (Nat.le_of_ble_eq_true rfl)⟩, trivial⟩ (by decide) rfl), (show Sl w 1 RRow (.slice (some ⟨b13, 0, none⟩) 2 2) ([[20, -1], [24, 40]] : List (List Int)) from sl_of_blk (hS.at b13) (css := [[.slice (some ⟨b11, 0, none⟩) 2 2], [.slice (some ⟨b12, 0, none⟩) 2 2]]) (l := ([[20, -1], [24, 40]] : List (List Int))) rfl ⟨rfl, ⟨_, rfl, (ints_sl (l := [20, -1]) (hS.at b11) (by decide) (by decide))⟩, rfl, ⟨_, rfl, (ints_sl (l := [24, 40]) (hS.at b12) (by decide) (by decide))⟩, trivial⟩ (by decide) rfl)⟩, hS.ext⟩
set_option maxHeartbeats 2000000 in
/-- barrage/barragelaw11.Log -/
theorem c_Log {w0 : World} : CE Tryz.prog 43 #[] w0 (fun u w' => Sl w' 5 RMsg u exL ∧ Ext w0 w') := by
  refine enter Tryz.func43 rfl Tryz.ntmps43 rfl ?_
  have hS := St.start w0
  refine seq ?_
  refine region ?_
  refine sv (yAsg rfl) ?_
  refine nil ?_
  show Code.wp _ _ _ _ _
  refine seq ?_
  refine region ?_
  refine sv (yBuild Tryz.zeroValue70 rfl pl70 (.cons rfl rfl (.cons rfl rfl (.cons rfl rfl (.cons rfl rfl (.cons rfl rfl .nil))))) rfl) ?_
  refine sv (yBuild Tryz.zeroValue70 rfl pl70 (.cons rfl rfl (.cons rfl rfl (.cons rfl rfl (.cons rfl rfl (.cons rfl rfl .nil))))) rfl) ?_
  refine sbslice hS Tryz.underlying62 Tryz.sizeOf70 rfl Tryz.zeroValue70 rfl (.cons rfl rfl (.cons rfl rfl .nil)) rfl ?_; clear hS; intro b3 w hS
  refine sv (yAsg rfl) ?_
  refine nil ?_
  show Code.wp _ _ _ _ _
  refine wp_ret ?_
  refine retQ (res1 rfl rfl) ?_
  exact ⟨(show Sl w 5 RMsg (.slice (some ⟨b3, 0, none⟩) 2 2) ([⟨1, 0, 2, 0, 18⟩, ⟨2, 2, 1, 1, 18⟩] : List Msg) from sl_of_blk (hS.at b3) (css := [[.int .i64 1, .int .i64 0, .int .i64 2, .int .i64 0, .int .i64 18], [.int .i64 2, .int .i64 2, .int .i64 1, .int .i64 1, .int .i64 18]]) (l := ([⟨1, 0, 2, 0, 18⟩, ⟨2, 2, 1, 1, 18⟩] : List Msg)) rfl ⟨rfl, ⟨rfl, by decide, by decide, by decide, by decide, by decide⟩, rfl, ⟨rfl, by decide, by decide, by decide, by decide, by decide⟩, trivial⟩ (by decide) rfl), hS.ext⟩
/-- barrage/barrageref11.Messages -/
theorem c_Msgs {la lb : List Msg} {va vb : Value} {w0 : World} (ha : Sl w0 5 RMsg va la) (hb : Sl w0 5 RMsg vb lb) : CV Tryz.prog 35 #[va, vb] w0 (.bool (decide (la = lb))) := by
  obtain ⟨aa, ca, rfl, hca, hma, hela⟩ := ha
  obtain ⟨ab, cb, rfl, hcb, hmb, helb⟩ := hb
  refine enter Tryz.func35 rfl Tryz.ntmps35 rfl ?_
  have hS := St.start w0
  refine seq ?_
  refine region ?_
  refine sv (yAsg rfl) ?_
  refine nil ?_
  show Code.wp _ _ _ _ _
  refine seq ?_
  refine seq ?_
  refine region ?_
  refine sv (yMove rfl) ?_
  refine sv (yLen rfl Tryz.underlying62) ?_
  refine sv (yMove rfl) ?_
  refine sv (yLen rfl Tryz.underlying62) ?_
  refine sv (yNeq rfl rfl) ?_
  refine nil ?_
  show Code.wp _ _ _ _ _
  refine cond rfl (fun c10 => ?_) (fun c10 => ?_)
  ·
    simp only [Bool.and_eq_true, Bool.or_eq_true, Bool.and_eq_false_iff, Bool.or_eq_false_iff, decide_eq_true_eq, decide_eq_false_iff_not, Bool.not_eq_true, Bool.not_eq_false, Bool.not_not, Bool.not_eq_eq_eq_not, Bool.not_true, Bool.not_false, Bool.false_eq_true, Bool.true_eq_false, ne_eq, Decidable.not_not, not_false_eq_true, not_true_eq_false] at c10
    refine seq ?_
    refine region ?_
    refine sv (yAsg rfl) ?_
    refine nil ?_
    show Code.wp _ _ _ _ _
    refine wp_ret (thenR ?_)
    exact retV (res1 rfl (eqB (by rw [decide_eq_false (fun h => by rw [h] at c10; exact c10 rfl)]))) hS.ext
  ·
    simp only [Bool.and_eq_true, Bool.or_eq_true, Bool.and_eq_false_iff, Bool.or_eq_false_iff, decide_eq_true_eq, decide_eq_false_iff_not, Bool.not_eq_true, Bool.not_eq_false, Bool.not_not, Bool.not_eq_eq_eq_not, Bool.not_true, Bool.not_false, Bool.false_eq_true, Bool.true_eq_false, ne_eq, Decidable.not_not, not_false_eq_true, not_true_eq_false] at c10
    refine skip ?_
    show Code.wp _ _ _ _ _
    refine seq ?_
    refine seq ?_
    refine region ?_
    refine sv (yAsg rfl) ?_
    refine nil ?_
    show Code.wp _ _ _ _ _
    refine block ?_
    refine loop (fun f w zz => ∃ (k : Nat), f 0 = .slice aa la.length ca ∧ f 1 = .slice ab lb.length cb ∧ f 5 = .int .i64 (k : Int) ∧ StX [] w0 w [] ∧ (k ≤ la.length) ∧ (∀ i, i < k → la[i]? = lb[i]?) ∧ zz = la.length - k) _ ⟨_, rfl, 0, rfl, rfl, rfl, hS, (Nat.zero_le _), (fun i hi => absurd hi (Nat.not_lt_zero i)), rfl⟩ ?_
    clear hS
    rintro f w _ ⟨k, h0, h1, h5, hS, hk, hI, rfl⟩
    refine seq ?_
    refine seq ?_
    refine region ?_
    refine sv (yMove h5) ?_
    refine sv (yMove h0) ?_
    refine sv (yLen rfl Tryz.underlying62) ?_
    refine sv (yLss rfl rfl) ?_
    refine nil ?_
    show Code.wp _ _ _ _ _
    refine cond rfl (fun c14 => ?_) (fun c14 => ?_)
    ·
      simp only [Bool.and_eq_true, Bool.or_eq_true, Bool.and_eq_false_iff, Bool.or_eq_false_iff, decide_eq_true_eq, decide_eq_false_iff_not, Bool.not_eq_true, Bool.not_eq_false, Bool.not_not, Bool.not_eq_eq_eq_not, Bool.not_true, Bool.not_false, Bool.false_eq_true, Bool.true_eq_false, ne_eq, Decidable.not_not, not_false_eq_true, not_true_eq_false] at c14
      obtain ⟨x, hx, hd⟩ := drop_of (l := la) (k := k) (by omega)
      obtain ⟨b, o, cs, ha, hlen, hcs, hR⟩ := hela (k) (by omega)
      obtain rfl : x = la[k] := (List.getElem?_eq_some_iff.1 hx).2.symm
      generalize la[k] = x at hx hd hR
      obtain ⟨rfl, _⟩ := hR
      obtain ⟨y, hxq, hdq⟩ := drop_of (l := lb) (k := k) (by omega)
      obtain ⟨bq, oq, csq, haq, hlenq, hcsq, hRq⟩ := helb (k) (by omega)
      obtain rfl : y = lb[k] := (List.getElem?_eq_some_iff.1 hxq).2.symm
      generalize lb[k] = y at hxq hdq hRq
      obtain ⟨rfl, _⟩ := hRq
      refine skip ?_
      show Code.wp _ _ _ _ _
      refine seq ?_
      refine block ?_
      refine seq ?_
      refine region_draw mixed (by kernel_rfl) hS ?_
      refine qv (fun w hS => (yMove h0)) ?_
      refine qv (fun w hS => (yMove h5)) ?_
      refine qv (fun w hS => (yIxa rfl ha rfl Tryz.runUnderlying62 Tryz.sizeOf70 (by omega) (by omega))) ?_
      refine qv (fun w hS => (yLdA rfl Tryz.isAgg70 Tryz.sizeOf70 (hcs.ext hS.ext) rfl)) ?_
      refine qv (fun w hS => (yMove h1)) ?_
      refine qv (fun w hS => (yMove h5)) ?_
      refine qv (fun w hS => (yIxa rfl haq rfl Tryz.runUnderlying62 Tryz.sizeOf70 (by omega) (by omega))) ?_
      refine qv (fun w hS => (yLdA rfl Tryz.isAgg70 Tryz.sizeOf70 (hcsq.ext hS.ext) rfl)) ?_
      refine qv (fun w hS => (neS70 rfl rfl)) ?_
      clear hS; refine qnil (fun w hS => ?_)
      show Code.wp _ _ _ _ _
      refine cond rfl (fun c25 => ?_) (fun c25 => ?_)
      ·
        have hne : x ≠ y := fun h => by subst h; simp [] at c25
        refine seq ?_
        refine region ?_
        refine sv (yAsg rfl) ?_
        refine nil ?_
        show Code.wp _ _ _ _ _
        refine wp_ret (blockR (thenR (thenR (blockR (thenR ?_)))))
        exact retV (res1 rfl (eqB (by rw [decide_eq_false (ne_of_get hx hxq hne)]))) hS.ext
      ·
        have hxy : x = y := by cases x; cases y; simpa [and_assoc] using c25
        refine skip ?_
        show Code.wp _ _ _ _ _
        refine region ?_
        refine sv (yMove h5) ?_
        refine sv (yAdd rfl rfl ⟨by omega, by omega⟩) ?_
        refine sv (yAsg rfl) ?_
        refine nil ?_
        exact ⟨_, _, rfl, ⟨k + 1, h0, h1, rfl, hS, (by omega), (snoc hI (by rw [hx, hxq, hxy])), rfl⟩, by omega⟩
    ·
      simp only [Bool.and_eq_true, Bool.or_eq_true, Bool.and_eq_false_iff, Bool.or_eq_false_iff, decide_eq_true_eq, decide_eq_false_iff_not, Bool.not_eq_true, Bool.not_eq_false, Bool.not_not, Bool.not_eq_eq_eq_not, Bool.not_true, Bool.not_false, Bool.false_eq_true, Bool.true_eq_false, ne_eq, Decidable.not_not, not_false_eq_true, not_true_eq_false] at c14
      refine exit ?_
      show Code.wp _ _ _ _ _
      refine seq ?_
      refine region ?_
      refine sv (yAsg rfl) ?_
      refine nil ?_
      show Code.wp _ _ _ _ _
      refine wp_ret ?_
      exact retV (res1 rfl (eqB (by rw [decide_eq_true (eq_of_get (by omega) (fun i hi => hI i (by omega)))]))) hS.ext
/-- barrage/barrageref11.Slots -/
theorem c_Slots {la lb : List Slot} {va vb : Value} {w0 : World} (ha : Sl w0 3 RSlot va la) (hb : Sl w0 3 RSlot vb lb) : CV Tryz.prog 38 #[va, vb] w0 (.bool (decide (la = lb))) := by
  obtain ⟨aa, ca, rfl, hca, hma, hela⟩ := ha
  obtain ⟨ab, cb, rfl, hcb, hmb, helb⟩ := hb
  refine enter Tryz.func38 rfl Tryz.ntmps38 rfl ?_
  have hS := St.start w0
  refine seq ?_
  refine region ?_
  refine sv (yAsg rfl) ?_
  refine nil ?_
  show Code.wp _ _ _ _ _
  refine seq ?_
  refine seq ?_
  refine region ?_
  refine sv (yMove rfl) ?_
  refine sv (yLen rfl Tryz.underlying27) ?_
  refine sv (yMove rfl) ?_
  refine sv (yLen rfl Tryz.underlying27) ?_
  refine sv (yNeq rfl rfl) ?_
  refine nil ?_
  show Code.wp _ _ _ _ _
  refine cond rfl (fun c10 => ?_) (fun c10 => ?_)
  ·
    simp only [Bool.and_eq_true, Bool.or_eq_true, Bool.and_eq_false_iff, Bool.or_eq_false_iff, decide_eq_true_eq, decide_eq_false_iff_not, Bool.not_eq_true, Bool.not_eq_false, Bool.not_not, Bool.not_eq_eq_eq_not, Bool.not_true, Bool.not_false, Bool.false_eq_true, Bool.true_eq_false, ne_eq, Decidable.not_not, not_false_eq_true, not_true_eq_false] at c10
    refine seq ?_
    refine region ?_
    refine sv (yAsg rfl) ?_
    refine nil ?_
    show Code.wp _ _ _ _ _
    refine wp_ret (thenR ?_)
    exact retV (res1 rfl (eqB (by rw [decide_eq_false (fun h => by rw [h] at c10; exact c10 rfl)]))) hS.ext
  ·
    simp only [Bool.and_eq_true, Bool.or_eq_true, Bool.and_eq_false_iff, Bool.or_eq_false_iff, decide_eq_true_eq, decide_eq_false_iff_not, Bool.not_eq_true, Bool.not_eq_false, Bool.not_not, Bool.not_eq_eq_eq_not, Bool.not_true, Bool.not_false, Bool.false_eq_true, Bool.true_eq_false, ne_eq, Decidable.not_not, not_false_eq_true, not_true_eq_false] at c10
    refine skip ?_
    show Code.wp _ _ _ _ _
    refine seq ?_
    refine seq ?_
    refine region ?_
    refine sv (yAsg rfl) ?_
    refine nil ?_
    show Code.wp _ _ _ _ _
    refine block ?_
    refine loop (fun f w zz => ∃ (k : Nat), f 0 = .slice aa la.length ca ∧ f 1 = .slice ab lb.length cb ∧ f 5 = .int .i64 (k : Int) ∧ StX [] w0 w [] ∧ (k ≤ la.length) ∧ (∀ i, i < k → la[i]? = lb[i]?) ∧ zz = la.length - k) _ ⟨_, rfl, 0, rfl, rfl, rfl, hS, (Nat.zero_le _), (fun i hi => absurd hi (Nat.not_lt_zero i)), rfl⟩ ?_
    clear hS
    rintro f w _ ⟨k, h0, h1, h5, hS, hk, hI, rfl⟩
    refine seq ?_
    refine seq ?_
    refine region ?_
    refine sv (yMove h5) ?_
    refine sv (yMove h0) ?_
    refine sv (yLen rfl Tryz.underlying27) ?_
    refine sv (yLss rfl rfl) ?_
    refine nil ?_
    show Code.wp _ _ _ _ _
    refine cond rfl (fun c14 => ?_) (fun c14 => ?_)
    ·
      simp only [Bool.and_eq_true, Bool.or_eq_true, Bool.and_eq_false_iff, Bool.or_eq_false_iff, decide_eq_true_eq, decide_eq_false_iff_not, Bool.not_eq_true, Bool.not_eq_false, Bool.not_not, Bool.not_eq_eq_eq_not, Bool.not_true, Bool.not_false, Bool.false_eq_true, Bool.true_eq_false, ne_eq, Decidable.not_not, not_false_eq_true, not_true_eq_false] at c14
      obtain ⟨x, hx, hd⟩ := drop_of (l := la) (k := k) (by omega)
      obtain ⟨b, o, cs, ha, hlen, hcs, hR⟩ := hela (k) (by omega)
      obtain rfl : x = la[k] := (List.getElem?_eq_some_iff.1 hx).2.symm
      generalize la[k] = x at hx hd hR
      obtain ⟨rfl, _⟩ := hR
      obtain ⟨y, hxq, hdq⟩ := drop_of (l := lb) (k := k) (by omega)
      obtain ⟨bq, oq, csq, haq, hlenq, hcsq, hRq⟩ := helb (k) (by omega)
      obtain rfl : y = lb[k] := (List.getElem?_eq_some_iff.1 hxq).2.symm
      generalize lb[k] = y at hxq hdq hRq
      obtain ⟨rfl, _⟩ := hRq
      refine skip ?_
      show Code.wp _ _ _ _ _
      refine seq ?_
      refine block ?_
      refine seq ?_
      refine region_draw mixed (by kernel_rfl) hS ?_
      refine qv (fun w hS => (yMove h0)) ?_
      refine qv (fun w hS => (yMove h5)) ?_
      refine qv (fun w hS => (yIxa rfl ha rfl Tryz.runUnderlying27 Tryz.sizeOf38 (by omega) (by omega))) ?_
      refine qv (fun w hS => (yLdA rfl Tryz.isAgg38 Tryz.sizeOf38 (hcs.ext hS.ext) rfl)) ?_
      refine qv (fun w hS => (yMove h1)) ?_
      refine qv (fun w hS => (yMove h5)) ?_
      refine qv (fun w hS => (yIxa rfl haq rfl Tryz.runUnderlying27 Tryz.sizeOf38 (by omega) (by omega))) ?_
      refine qv (fun w hS => (yLdA rfl Tryz.isAgg38 Tryz.sizeOf38 (hcsq.ext hS.ext) rfl)) ?_
      refine qv (fun w hS => (neS38 rfl rfl)) ?_
      clear hS; refine qnil (fun w hS => ?_)
      show Code.wp _ _ _ _ _
      refine cond rfl (fun c25 => ?_) (fun c25 => ?_)
      ·
        have hne : x ≠ y := fun h => by subst h; simp [] at c25
        refine seq ?_
        refine region ?_
        refine sv (yAsg rfl) ?_
        refine nil ?_
        show Code.wp _ _ _ _ _
        refine wp_ret (blockR (thenR (thenR (blockR (thenR ?_)))))
        exact retV (res1 rfl (eqB (by rw [decide_eq_false (ne_of_get hx hxq hne)]))) hS.ext
      ·
        have hxy : x = y := by cases x; cases y; simpa [and_assoc] using c25
        refine skip ?_
        show Code.wp _ _ _ _ _
        refine region ?_
        refine sv (yMove h5) ?_
        refine sv (yAdd rfl rfl ⟨by omega, by omega⟩) ?_
        refine sv (yAsg rfl) ?_
        refine nil ?_
        exact ⟨_, _, rfl, ⟨k + 1, h0, h1, rfl, hS, (by omega), (snoc hI (by rw [hx, hxq, hxy])), rfl⟩, by omega⟩
    ·
      simp only [Bool.and_eq_true, Bool.or_eq_true, Bool.and_eq_false_iff, Bool.or_eq_false_iff, decide_eq_true_eq, decide_eq_false_iff_not, Bool.not_eq_true, Bool.not_eq_false, Bool.not_not, Bool.not_eq_eq_eq_not, Bool.not_true, Bool.not_false, Bool.false_eq_true, Bool.true_eq_false, ne_eq, Decidable.not_not, not_false_eq_true, not_true_eq_false] at c14
      refine exit ?_
      show Code.wp _ _ _ _ _
      refine seq ?_
      refine region ?_
      refine sv (yAsg rfl) ?_
      refine nil ?_
      show Code.wp _ _ _ _ _
      refine wp_ret ?_
      exact retV (res1 rfl (eqB (by rw [decide_eq_true (eq_of_get (by omega) (fun i hi => hI i (by omega)))]))) hS.ext
end Go.Proofs.YtmoilbakmlekbaaGreatDoor
/- part Aw18 -/
namespace Go.Proofs.YtmoilbakmlekbaaGreatDoor
open Go Bx
set_option maxHeartbeats 4000000 in
/-- barrage/barragelaw11.Awake -/
theorem c_Awake {w0 : World} (hg : Glb w0) : CV Tryz.prog 20 #[] w0 (.bool true) := by
  refine enter Tryz.func20 rfl Tryz.ntmps20 rfl ?_
  have hS := St.start w0
  refine seq ?_
  refine region ?_
  refine sv (yAsg rfl) ?_
  refine nil ?_
  show Code.wp _ _ _ _ _
  refine seq ?_
  refine region ?_
  refine scall Tryz.call42 .nil c_Task ?_
  rintro _ w ⟨hv1, nv1, fv1, rfl, hT1, hE⟩; replace hS := hS.step hE; clear hE
  refine scall Tryz.call18 (.cons rfl (.cons rfl .nil)) (c_Plan (hg.ext hS.ext) hT1) ?_
  rw [ex_plan]
  rintro _ w ⟨lv, rfl, hM⟩; replace hS := hS.call1 hM; clear hM
  replace hS : StX [] w0 w [rowI lv 38 3 3 ([exS1, exS2, exS3].flatMap slotC)] := hS
  obtain ⟨al, cl, rfl⟩ := row_shape (hS.row lv)
  obtain ⟨gl, rfl, -⟩ := row_get (hS.row (.slice al 3 cl)) (by decide)
  refine sv (yMove rfl) ?_
  refine sv (yExt rfl rfl) ?_
  refine sv (yExt rfl rfl) ?_
  refine sv (yAsg rfl) ?_
  refine sv (yAsg rfl) ?_
  refine nil ?_
  show Code.wp _ _ _ _ _
  refine seq ?_
  refine region ?_
  refine scall Tryz.call42 .nil c_Task ?_
  rintro _ w ⟨hv2, nv2, fv2, rfl, hT2, hE⟩; replace hS := hS.step hE; clear hE
  refine scall Tryz.call33 (.cons rfl (.cons rfl (.cons rfl .nil))) (c_Next (hg.ext hS.ext) hT2 (log := []) Sl.nil) ?_
  rw [ex_next]
  rintro _ w ⟨mv, rfl, hM⟩; replace hS := hS.call1 hM; clear hM
  replace hS : StX [] w0 w [rowI mv 70 5 exL.length (exL.flatMap msgC), rowI (.slice (some ⟨gl, 0, none⟩) 3 cl) 38 3 3 ([exS1, exS2, exS3].flatMap slotC)] := hS
  refine sv (yMove rfl) ?_
  refine sv (yExt rfl rfl) ?_
  refine sv (yExt rfl rfl) ?_
  refine sv (yAsg rfl) ?_
  refine sv (yAsg rfl) ?_
  refine nil ?_
  show Code.wp _ _ _ _ _
  refine seq ?_
  refine region ?_
  refine scall Tryz.call42 .nil c_Task ?_
  rintro _ w ⟨hv3, nv3, fv3, rfl, hT3, hE⟩; replace hS := hS.step hE; clear hE
  refine scall Tryz.call25 (.cons rfl (.cons rfl (.cons rfl .nil))) (c_Stage (hg.ext hS.ext) hT3 (i := 3) (now := 0)) ?_
  rw [ex_stage]
  rintro _ w ⟨rfl, hE⟩; replace hS := hS.step hE; clear hE
  refine sv (yMove rfl) ?_
  refine sv (yExt rfl rfl) ?_
  refine sv (yExt rfl rfl) ?_
  refine sv (yAsg rfl) ?_
  refine sv (yAsg rfl) ?_
  refine nil ?_
  show Code.wp _ _ _ _ _
  refine seq ?_
  refine region ?_
  refine sv (yMove rfl) ?_
  refine sv (yEql rfl rfl) ?_
  refine sv (yMove rfl) ?_
  refine ungo rfl rfl rfl ?_
  refine sv (yMove rfl) ?_
  refine ungo rfl rfl rfl ?_
  refine sv (yEql rfl rfl) ?_
  refine sv (yAnd rfl (fun hB => rfl) rfl) ?_
  refine sv (yMove rfl) ?_
  refine ungo rfl rfl rfl ?_
  refine sv (yMove rfl) ?_
  refine ungo rfl rfl rfl ?_
  refine sv (yEql rfl rfl) ?_
  refine sv (yAnd rfl (fun hB => rfl) rfl) ?_
  refine sv (yMove rfl) ?_
  refine ungo rfl rfl rfl ?_
  refine sv (yMove rfl) ?_
  refine ungo rfl rfl rfl ?_
  refine sv (yLen rfl Tryz.underlying27) ?_
  refine ungo rfl rfl rfl ?_
  refine sv (yEql rfl rfl) ?_
  refine sv (yAnd rfl (fun hB => rfl) rfl) ?_
  refine sv (yMove rfl) ?_
  refine ungo rfl rfl rfl ?_
  refine sv (yMove rfl) ?_
  refine ungo rfl rfl rfl ?_
  refine sv (yIx0 (m := 1) rfl rfl Tryz.runUnderlying27 Tryz.sizeOf38 (by decide)) ?_
  refine ungo rfl rfl rfl ?_
  refine sv (yLdA rfl Tryz.isAgg38 Tryz.sizeOf38 (flat_cells0 slotC_len (row_at (hS.row (.slice (some ⟨gl, 0, none⟩) 3 cl)) rfl (by decide)) (x := exS2) rfl) rfl) ?_
  refine ungo rfl rfl rfl ?_
  refine sv (yBuild Tryz.zeroValue38 rfl pl38 (.cons rfl rfl (.cons rfl rfl .nil)) rfl) ?_
  refine ungo rfl rfl rfl ?_
  refine sv (eqS38 rfl rfl) ?_
  refine sv (yAnd rfl (fun hB => rfl) rfl) ?_
  refine sv (yMove rfl) ?_
  refine ungo rfl rfl rfl ?_
  refine sv (yMove rfl) ?_
  refine ungo rfl rfl rfl ?_
  refine scall Tryz.call43 .nil c_Log ?_
  rintro v46 w ⟨hL, hE⟩; replace hS := hS.step hE; clear hE
  refine ungo rfl rfl rfl ?_
  refine scall Tryz.call35 (.cons rfl (.cons rfl .nil)) (c_Msgs (sl_msgs (hS.row mv) rfl (by decide)) hL) ?_
  rintro _ w ⟨rfl, hE⟩; replace hS := hS.step hE; clear hE
  refine sv (yAnd rfl (fun hB => rfl) rfl) ?_
  refine sv (yAsg rfl) ?_
  refine nil ?_
  show Code.wp _ _ _ _ _
  refine wp_ret ?_
  exact retV (res1 rfl rfl) hS.ext
end Go.Proofs.YtmoilbakmlekbaaGreatDoor
/- part A17 -/
namespace Bx
open Go Go.RowKit
section
variable {P : Program} {ρ : Operand → Value} {w : World} {ty : TypeId}
theorem yRemU4 {x y : Operand} {a b : Int} {t t' : TypeId} (hx : ρ x = .int .u32 a) (hy : ρ y = .int .u32 b) (ha : 0 ≤ a) (hb : 0 < b) : Y P ρ (.binOp .rem t x y t') ty w (.int .u32 (a % b)) w := by
  have h0 : b ≠ 0 := by omega
  have e : a.tmod b = a % b := Int.tmod_eq_emod_of_nonneg ha
  simp [Y, xop, execOp, hx, hy, eqGuard, binOp, Op.intDiv, h0, e]
end
def RU32 (_ : World) (cs : List Value) (n : Int) : Prop := cs = [.int .u32 n] ∧ 0 ≤ n ∧ n ≤ 4294967295
theorem rd_u32 {P : Program} {t : TypeId} (ht : P.underlying t = some (.int .u32)) : Rd P t RU32 := by
  intro H enc w base spare held fuel cs x h
  obtain ⟨n, rfl, _, hw⟩ := DataW.trod_int ht h
  obtain ⟨h1, h2⟩ := bounds_u32 hw
  exact ⟨n, rfl, h1, h2⟩
def RTwoU (_ : World) (cs : List Value) (p : Int × Int) : Prop := cs = [.int .u32 p.1, .int .u32 p.2] ∧ (0 ≤ p.1 ∧ p.1 ≤ 4294967295) ∧ 0 ≤ p.2 ∧ p.2 ≤ 4294967295
def tkA (p : Int × Int) : Int := min (p.1 % 200001) (p.2 % 200001)
def tkB (p : Int × Int) : Int := max (p.1 % 200001) (p.2 % 200001)
theorem tk_bd (a : Int) : 0 ≤ a % 200001 ∧ a % 200001 ≤ 200000 := by omega
theorem stageF_bd (t : Task) (i now : Int) : 0 ≤ stageF t i now ∧ stageF t i now ≤ 2 := by
  unfold stageF
  split
  · omega
  · split
    · omega
    · split <;> omega
theorem stageF_mono (t : Task) (i : Int) {a b : Int} (h : a ≤ b) : stageF t i a ≤ stageF t i b := by
  unfold stageF
  split
  · omega
  · split
    · omega
    · split <;> split <;> omega
theorem stageF_zero (t : Task) (i now : Int) : stageF t i now = 0 ↔ (arr t i).2 = 0 := by
  unfold stageF
  split
  next h => simp [h]
  next h =>
    refine ⟨fun h' => ?_, fun h' => absurd h' h⟩
    split at h'
    · cases h'
    · split at h' <;> cases h'
theorem stageF_two {t : Task} {i b : Int} (h : (arr t i).2 ≠ 0) (hb : (arr t i).1.lo - (twn t i).lead ≤ b) : stageF t i b = 2 := by
  unfold stageF actF
  rw [if_neg h, if_pos hb]
  split <;> rfl
theorem outB_tick {a : Int} (h : 0 ≤ a ∧ a ≤ 200000) : outB a 0 200000 = false := outB_false.2 h
/-- What the three answers are, whether or not the town is there. -/
theorem stages_err {t : Task} {i a b : Int} (ha : 0 ≤ a ∧ a ≤ 200000) (hb : 0 ≤ b ∧ b ≤ 200000) (h : ofE t i ≠ 0) : stageR t i a = (0, ofE t i) ∧ stageR t i b = (0, ofE t i) ∧ arrR t i = ((⟨0, 0⟩, 0), ofE t i) :=
  ⟨by unfold stageR; rw [if_pos h], by unfold stageR; rw [if_pos h], by unfold arrR; rw [if_pos h]⟩
theorem stages_ok {t : Task} {i a b : Int} (ha : 0 ≤ a ∧ a ≤ 200000) (hb : 0 ≤ b ∧ b ≤ 200000) (h : ofE t i = 0) : stageR t i a = (stageF t i a, 0) ∧ stageR t i b = (stageF t i b, 0) ∧ arrR t i = (arr t i, 0) :=
  ⟨by unfold stageR; rw [if_neg (fun h' => h' h), if_neg (by rw [outB_tick ha]; decide)], by unfold stageR; rw [if_neg (fun h' => h' h), if_neg (by rw [outB_tick hb]; decide)], by unfold arrR; rw [if_neg (fun h' => h' h)]⟩
theorem stages_all (t : Task) (i : Int) {a b : Int} (ha : 0 ≤ a ∧ a ≤ 200000) (hb : 0 ≤ b ∧ b ≤ 200000) (hab : a ≤ b) : ∃ m n e s k, stageR t i a = (m, e) ∧ stageR t i b = (n, e) ∧ arrR t i = ((s, k), e) ∧
    (e = 0 → (0 ≤ i ∧ i < t.towns.length) ∧ (0 ≤ m ∧ n ≤ 2 ∧ m ≤ n) ∧ (m = 0 ↔ k = 0) ∧ (k ≠ 0 → s.lo - (twn t i).lead ≤ b → n = 2) ∧ (0 ≤ s.lo ∧ s.lo ≤ 200500) ∧ 0 ≤ (twn t i).lead ∧ (twn t i).lead ≤ 500) := by
  by_cases h : ofE t i = 0
  · obtain ⟨h1, h2, h3⟩ := stages_ok ha hb h
    obtain ⟨hok, hi⟩ := ofE_ok h
    have hbd := arr_bd hok hi
    have hl := (town_ok hok hi).lead
    refine ⟨_, _, _, _, _, h1, h2, h3, fun _ => ⟨hi, ⟨(stageF_bd t i a).1, (stageF_bd t i b).2, stageF_mono t i hab⟩, stageF_zero t i a, fun hk hs => stageF_two hk hs, hbd.1, hl⟩⟩
  · obtain ⟨h1, h2, h3⟩ := stages_err ha hb h
    exact ⟨_, _, _, _, _, h1, h2, h3, fun h' => absurd h' h⟩
theorem tk_ab (p : Int × Int) : (0 ≤ tkA p ∧ tkA p ≤ 200000) ∧ (0 ≤ tkB p ∧ tkB p ≤ 200000) ∧ tkA p ≤ tkB p := by unfold tkA tkB; omega
theorem stages_bool {m n k lo ld b : Int} (h1 : m = 0 ↔ k = 0) (h2 : k ≠ 0 → lo - ld ≤ b → n = 2) : (((decide (m = 0) == decide (k = 0)) && ((decide (k = 0) || decide (b < lo - ld)) || decide (n = 2))) && true) = true := by
  rw [Bool.and_true, Bool.and_eq_true]
  refine ⟨by simp [h1], ?_⟩
  by_cases hk : k = 0
  · simp [hk]
  · by_cases hb : b < lo - ld
    · simp [hb]
    · simp [h2 hk (by omega)]
end Bx
/- part Aw19 -/
namespace Go.Proofs.YtmoilbakmlekbaaGreatDoor
open Go Bx
set_option maxHeartbeats 2000000 in
/-- barrage/barragelaw11.AlarmStages -/
theorem w_AlarmStages {t : Task} {cs : List Value} {i : Int} {p : Int × Int} {qs : List Value} {w0 : World} (hg : Glb w0) (h : RTask w0 cs t) (_ : I64 i) (h2 : RTwoU w0 qs p) : CV Tryz.prog 7 #[.agg cs.toArray, .int .i64 i, .agg qs.toArray] w0 (.bool true) := by
  obtain ⟨hv, nv, fv, rfl, hpol, hsh, hsn, hsf⟩ := id h
  obtain ⟨a1, cap1, rfl, hcap1, hmx1, hel1⟩ := id hsh
  obtain ⟨a2, cap2, rfl, hcap2, hmx2, hel2⟩ := id hsn
  obtain ⟨a3, cap3, rfl, hcap3, hmx3, hel3⟩ := id hsf
  obtain ⟨rfl, hp1, hp2⟩ := id h2
  obtain ⟨hta, htb, htab⟩ := tk_ab p
  obtain ⟨m, nn, e, s, k, hs1, hs2, hs3, hok⟩ := stages_all t i hta htb htab
  refine enter Tryz.func7 rfl Tryz.ntmps7 rfl ?_
  have hS := St.start w0
  refine seq ?_
  refine region ?_
  refine sbox hS rfl rfl ?_; clear hS; intro b3 w hS
  refine sbox hS rfl rfl ?_; clear hS; intro b5 w hS
  refine sv (yAsg rfl) ?_
  refine nil ?_
  show Code.wp _ _ _ _ _
  refine seq ?_
  refine region_draw mixed (by kernel_rfl) hS ?_
  refine qv (fun w hS => (yIxA rfl rfl Tryz.runUnderlying57 Tryz.sizeOf56 (by omega) (by omega))) ?_
  refine qv (fun w hS => (yLdB rfl Tryz.isAgg56 (hS.at _) rfl)) ?_
  refine qv (fun w hS => (yRemU4 rfl rfl (by omega) (by omega))) ?_
  refine qv (fun w hS => (yToI rfl Tryz.underlying56 Tryz.underlying3 ⟨by omega, by omega⟩)) ?_
  refine qv (fun w hS => (yIxA rfl rfl Tryz.runUnderlying57 Tryz.sizeOf56 (by omega) (by omega))) ?_
  refine qv (fun w hS => (yLdB rfl Tryz.isAgg56 (hS.at _) rfl)) ?_
  refine qv (fun w hS => (yRemU4 rfl rfl (by omega) (by omega))) ?_
  refine qv (fun w hS => (yToI rfl Tryz.underlying56 Tryz.underlying3 ⟨by omega, by omega⟩)) ?_
  refine qv (fun w hS => (yAsg rfl)) ?_
  refine qv (fun w hS => (yAsg rfl)) ?_
  clear hS; refine qnil (fun w hS => ?_)
  show Code.wp _ _ _ _ _
  refine seqJ (n := 122) (fun f w => f 1 = .int .i64 i ∧ f 3 = .pointer (some ⟨b3, 0, none⟩) ∧ f 7 = .int .i64 (tkA p) ∧ f 8 = .int .i64 (tkB p) ∧ StX [] w0 w [blk b5 [.int .u32 p.1, .int .u32 p.2] 57, blk b3 [.int .i64 t.polders, .slice a1 t.chans.length cap1, .slice a2 t.towns.length cap2, .slice a3 t.floods.length cap3] 26] ∧ True) ?_ ?_
  ·
    refine seq ?_
    refine region ?_
    refine sv (yMove rfl) ?_
    refine sv (yMove rfl) ?_
    refine sv (yGtr rfl rfl) ?_
    refine nil ?_
    show Code.wp _ _ _ _ _
    refine cond rfl (fun c26 => ?_) (fun c26 => ?_)
    ·
      simp only [Bool.and_eq_true, Bool.or_eq_true, Bool.and_eq_false_iff, Bool.or_eq_false_iff, decide_eq_true_eq, decide_eq_false_iff_not, Bool.not_eq_true, Bool.not_eq_false, Bool.not_not, Bool.not_eq_eq_eq_not, Bool.not_true, Bool.not_false, Bool.false_eq_true, Bool.true_eq_false, ne_eq, Decidable.not_not, not_false_eq_true, not_true_eq_false] at c26
      refine region ?_
      refine sv (yMove rfl) ?_
      refine sv (yMove rfl) ?_
      refine sv (yAsg rfl) ?_
      refine sv (yAsg rfl) ?_
      refine nil ?_
      exact ⟨_, rfl, rfl, rfl, (rfl.trans (congrArg (Value.int .i64) (by unfold tkA; omega))), (rfl.trans (congrArg (Value.int .i64) (by unfold tkB; omega))), hS, trivial⟩
    ·
      simp only [Bool.and_eq_true, Bool.or_eq_true, Bool.and_eq_false_iff, Bool.or_eq_false_iff, decide_eq_true_eq, decide_eq_false_iff_not, Bool.not_eq_true, Bool.not_eq_false, Bool.not_not, Bool.not_eq_eq_eq_not, Bool.not_true, Bool.not_false, Bool.false_eq_true, Bool.true_eq_false, ne_eq, Decidable.not_not, not_false_eq_true, not_true_eq_false] at c26
      refine skip ?_
      exact ⟨_, rfl, rfl, rfl, (rfl.trans (congrArg (Value.int .i64) (by unfold tkA; omega))), (rfl.trans (congrArg (Value.int .i64) (by unfold tkB; omega))), hS, trivial⟩
  ·
    clear hS; rintro f w ⟨h1, h3, h7, h8, hS, -⟩
    refine seq ?_
    refine region ?_
    refine sv (yLdBA h3 Tryz.isAgg26 Tryz.sizeOf26 (hS.at _) rfl rfl) ?_
    refine sv (yMove h1) ?_
    refine sv (yMove h7) ?_
    refine scall Tryz.call25 (.cons rfl (.cons rfl (.cons rfl .nil))) (c_Stage (hg.ext hS.ext) (h.ext hS.ext)) ?_
    rw [hs1]
    rintro _ w ⟨rfl, hE⟩; replace hS := hS.step hE; clear hE
    refine sv (yMove rfl) ?_
    refine sv (yExt rfl rfl) ?_
    refine sv (yExt rfl rfl) ?_
    refine sv (yAsg rfl) ?_
    refine sv (yAsg rfl) ?_
    refine nil ?_
    show Code.wp _ _ _ _ _
    refine seq ?_
    refine region ?_
    refine sv (yLdBA h3 Tryz.isAgg26 Tryz.sizeOf26 (hS.at _) rfl rfl) ?_
    refine sv (yMove h1) ?_
    refine sv (yMove h8) ?_
    refine scall Tryz.call25 (.cons rfl (.cons rfl (.cons rfl .nil))) (c_Stage (hg.ext hS.ext) (h.ext hS.ext)) ?_
    rw [hs2]
    rintro _ w ⟨rfl, hE⟩; replace hS := hS.step hE; clear hE
    refine sv (yMove rfl) ?_
    refine sv (yExt rfl rfl) ?_
    refine sv (yExt rfl rfl) ?_
    refine sv (yAsg rfl) ?_
    refine sv (yAsg rfl) ?_
    refine nil ?_
    show Code.wp _ _ _ _ _
    refine seqJ (n := 122) (fun f w => ∃ (b13 : Nat), f 1 = .int .i64 i ∧ f 3 = .pointer (some ⟨b3, 0, none⟩) ∧ f 8 = .int .i64 (tkB p) ∧ f 9 = .int .i64 m ∧ f 10 = .int .i64 e ∧ f 11 = .int .i64 nn ∧ f 12 = .int .i64 e ∧ f 13 = .pointer (some ⟨b13, 0, none⟩) ∧ f 14 = .int .i64 k ∧ f 15 = .int .i64 e ∧ StX [] w0 w [blk b13 [.int .i64 s.lo, .int .i64 s.hi] 44, blk b5 [.int .u32 p.1, .int .u32 p.2] 57, blk b3 [.int .i64 t.polders, .slice a1 t.chans.length cap1, .slice a2 t.towns.length cap2, .slice a3 t.floods.length cap3] 26] ∧ True) ?_ ?_
    ·
      refine region ?_
      refine sv (yLdBA h3 Tryz.isAgg26 Tryz.sizeOf26 (hS.at _) rfl rfl) ?_
      refine sv (yMove h1) ?_
      refine scall Tryz.call23 (.cons rfl (.cons rfl .nil)) (c_Arrival (hg.ext hS.ext) (h.ext hS.ext)) ?_
      rw [hs3]
      rintro _ w ⟨rfl, hE⟩; replace hS := hS.step hE; clear hE
      refine sv (yMove rfl) ?_
      refine sv (yExt rfl rfl) ?_
      refine sv (yExt rfl rfl) ?_
      refine sv (yExt rfl rfl) ?_
      refine salloc hS Tryz.zeroValue44 rfl ?_; clear hS; intro b13 w hS
      refine sst hS rfl rfl Tryz.sizeOf44 rfl rfl rfl rfl ?_; clear hS; intro w hS
      refine sv (yAsg rfl) ?_
      refine sv (yAsg rfl) ?_
      refine nil ?_
      exact ⟨_, rfl, b13, h1, h3, h8, rfl, rfl, rfl, rfl, rfl, rfl, rfl, hS, trivial⟩
    ·
      clear hS; rintro f w ⟨b13, h1, h3, h8, h9, h10, h11, h12, h13, h14, h15, hS, -⟩
      refine seq ?_
      refine seq ?_
      refine region ?_
      refine sv (yMove h10) ?_
      refine sv (yNeq rfl rfl) ?_
      refine sv (yMove rfl) ?_
      refine sg rfl rfl rfl (fun g => (yMove h12)) (fun v53 g53 => ?_)
      refine sg rfl rfl rfl (fun g => (yNeq (g53.1 g) rfl)) (fun v54 g54 => ?_)
      refine sv (yOr rfl rfl (fun hB => (g54.1 hB))) ?_
      refine sv (yMove rfl) ?_
      refine sg rfl rfl rfl (fun g => (yMove h15)) (fun v57 g57 => ?_)
      refine sg rfl rfl rfl (fun g => (yNeq (g57.1 g) rfl)) (fun v58 g58 => ?_)
      refine sv (yOr rfl rfl (fun hB => (g58.1 hB))) ?_
      refine nil ?_
      show Code.wp _ _ _ _ _
      refine cond rfl (fun c59 => ?_) (fun c59 => ?_)
      ·
        simp only [Bool.and_eq_true, Bool.or_eq_true, Bool.and_eq_false_iff, Bool.or_eq_false_iff, decide_eq_true_eq, decide_eq_false_iff_not, Bool.not_eq_true, Bool.not_eq_false, Bool.not_not, Bool.not_eq_eq_eq_not, Bool.not_true, Bool.not_false, Bool.false_eq_true, Bool.true_eq_false, ne_eq, Decidable.not_not, not_false_eq_true, not_true_eq_false] at c59
        refine seq ?_
        refine region ?_
        refine sv (yMove h10) ?_
        refine sv (yMove h12) ?_
        refine sv (yEql rfl rfl) ?_
        refine sv (yMove rfl) ?_
        refine sg rfl rfl rfl (fun g => (yMove h10)) (fun v64 g64 => ?_)
        refine sg rfl rfl rfl (fun g => (yMove h15)) (fun v65 g65 => ?_)
        refine sg rfl rfl rfl (fun g => (yEql (g64.1 g) (g65.1 g))) (fun v66 g66 => ?_)
        refine sv (yAnd rfl (fun hB => (g66.1 hB)) rfl) ?_
        refine sv (yMove rfl) ?_
        refine sgc hS rfl rfl rfl Tryz.call20 (fun g => .nil) (fun g => (c_Awake (hg.ext hS.ext))) ?_; clear hS; intro v69 w hS g69
        refine sv (yAnd rfl (fun hB => (g69.1 hB)) rfl) ?_
        refine sv (yAsg rfl) ?_
        refine nil ?_
        show Code.wp _ _ _ _ _
        refine wp_ret (thenR ?_)
        exact retV (res1 rfl (eqB (by simp))) hS.ext
      ·
        simp only [Bool.and_eq_true, Bool.or_eq_true, Bool.and_eq_false_iff, Bool.or_eq_false_iff, decide_eq_true_eq, decide_eq_false_iff_not, Bool.not_eq_true, Bool.not_eq_false, Bool.not_not, Bool.not_eq_eq_eq_not, Bool.not_true, Bool.not_false, Bool.false_eq_true, Bool.true_eq_false, ne_eq, Decidable.not_not, not_false_eq_true, not_true_eq_false] at c59
        have he0 : e = 0 := by omega
        obtain ⟨hi, hmn, hmk, hn2, hlo, hld⟩ := hok he0
        obtain ⟨bt, ot, cst, hat, hlt, hcst, hRt, -⟩ := sl_at hsn (twn_i (t := t) hi)
        obtain ⟨dvt, rfl, -⟩ := id hRt
        refine skip ?_
        show Code.wp _ _ _ _ _
        refine seq ?_
        refine seq ?_
        refine region ?_
        refine sv (yMove h1) ?_
        refine sv (yLss rfl rfl) ?_
        refine sv (yMove rfl) ?_
        refine sg rfl rfl rfl (fun g => (yMove h1)) (fun v74 g74 => ?_)
        refine sg rfl rfl rfl (fun g => (fa26_2 h3)) (fun v75 g75 => ?_)
        refine sg rfl rfl rfl (fun g => (yLdB (g75.1 g) Tryz.isAgg23 (hS.at _) rfl)) (fun v76 g76 => ?_)
        refine sg rfl rfl rfl (fun g => (yLen (g76.1 g) Tryz.underlying23)) (fun v77 g77 => ?_)
        refine sg rfl rfl rfl (fun g => (yGeq (g74.1 g) (g77.1 g))) (fun v78 g78 => ?_)
        refine sv (yOr rfl rfl (fun hB => (g78.1 hB))) ?_
        refine sv (yMove rfl) ?_
        refine sg rfl rfl rfl (fun g => (yMove h9)) (fun v81 g81 => ?_)
        refine sg rfl rfl rfl (fun g => (yLss (g81.1 g) rfl)) (fun v82 g82 => ?_)
        refine sv (yOr rfl rfl (fun hB => (g82.1 hB))) ?_
        refine sv (yMove rfl) ?_
        refine sg rfl rfl rfl (fun g => (yMove h11)) (fun v85 g85 => ?_)
        refine sg rfl rfl rfl (fun g => (yGtr (g85.1 g) rfl)) (fun v86 g86 => ?_)
        refine sv (yOr rfl rfl (fun hB => (g86.1 hB))) ?_
        refine sv (yMove rfl) ?_
        refine sg rfl rfl rfl (fun g => (yMove h9)) (fun v89 g89 => ?_)
        refine sg rfl rfl rfl (fun g => (yMove h11)) (fun v90 g90 => ?_)
        refine sg rfl rfl rfl (fun g => (yGtr (g89.1 g) (g90.1 g))) (fun v91 g91 => ?_)
        refine sv (yOr rfl rfl (fun hB => (g91.1 hB))) ?_
        refine nil ?_
        show Code.wp _ _ _ _ _
        refine cond rfl (fun c92 => ?_) (fun c92 => ?_)
        ·
          simp only [Bool.and_eq_true, Bool.or_eq_true, Bool.and_eq_false_iff, Bool.or_eq_false_iff, decide_eq_true_eq, decide_eq_false_iff_not, Bool.not_eq_true, Bool.not_eq_false, Bool.not_not, Bool.not_eq_eq_eq_not, Bool.not_true, Bool.not_false, Bool.false_eq_true, Bool.true_eq_false, ne_eq, Decidable.not_not, not_false_eq_true, not_true_eq_false] at c92
          exfalso; omega
        ·
          simp only [Bool.and_eq_true, Bool.or_eq_true, Bool.and_eq_false_iff, Bool.or_eq_false_iff, decide_eq_true_eq, decide_eq_false_iff_not, Bool.not_eq_true, Bool.not_eq_false, Bool.not_not, Bool.not_eq_eq_eq_not, Bool.not_true, Bool.not_false, Bool.false_eq_true, Bool.true_eq_false, ne_eq, Decidable.not_not, not_false_eq_true, not_true_eq_false] at c92
          refine skip ?_
          show Code.wp _ _ _ _ _
          refine seq ?_
          refine region_draw mixed (by kernel_rfl) hS ?_
          refine qv (fun w hS => (yMove h9)) ?_
          refine qv (fun w hS => (yEql rfl rfl)) ?_
          refine qv (fun w hS => (yMove h14)) ?_
          refine qv (fun w hS => (yEql rfl rfl)) ?_
          refine qv (fun w hS => (yBEq rfl rfl Tryz.underlying4)) ?_
          refine qv (fun w hS => (yMove rfl)) ?_
          refine qg rfl rfl rfl (fun g w hS => (yMove h14)) (fun v99 g99 => ?_)
          refine qg rfl rfl rfl (fun g w hS => (yEql (g99.1 g) rfl)) (fun v100 g100 => ?_)
          refine qg rfl rfl rfl (fun g w hS => (yMove (g100.1 g))) (fun v101 g101 => ?_)
          refine qgg rfl rfl g101 (fun g w hS => (fa44_0 h13)) (fun v102 g102 => ?_)
          refine qgg rfl rfl g101 (fun g w hS => (yLdB (g102.1 g) Tryz.isAgg3 (hS.at _) rfl)) (fun v103 g103 => ?_)
          refine qgg rfl rfl g101 (fun g w hS => (fa26_2 h3)) (fun v104 g104 => ?_)
          refine qgg rfl rfl g101 (fun g w hS => (yLdB (g104.1 g) Tryz.isAgg23 (hS.at _) rfl)) (fun v105 g105 => ?_)
          refine qgg rfl rfl g101 (fun g w hS => (yMove h1)) (fun v106 g106 => ?_)
          refine qgg rfl rfl g101 (fun g w hS => (yIxa (g105.1 g) hat (g106.1 g) Tryz.runUnderlying23 Tryz.sizeOf36 (by omega) (by omega))) (fun v107 g107 => ?_)
          refine qgg rfl rfl g101 (fun g w hS => (fa36_3 (g107.1 g))) (fun v108 g108 => ?_)
          refine qgg rfl rfl g101 (fun g w hS => (yLd (g108.1 g) Tryz.isAgg3 ((hcst.ext hS.ext).at (j := 3) rfl))) (fun v109 g109 => ?_)
          refine qgg rfl rfl g101 (fun g w hS => (ySub (g103.1 g) (g109.1 g) ⟨by omega, by omega⟩)) (fun v110 g110 => ?_)
          refine qgg rfl rfl g101 (fun g w hS => (yMove h8)) (fun v111 g111 => ?_)
          refine qgg rfl rfl g101 (fun g w hS => (yGtr (g110.1 g) (g111.1 g))) (fun v112 g112 => ?_)
          refine qg rfl rfl rfl (fun g w hS => (yOr (g101.1 g) rfl (fun hB => (g112.1 ⟨g, hB⟩)))) (fun v113 g113 => ?_)
          refine qg rfl rfl rfl (fun g w hS => (yMove (g113.1 g))) (fun v114 g114 => ?_)
          refine qgg rfl rfl g114 (fun g w hS => (yMove h11)) (fun v115 g115 => ?_)
          refine qgg rfl rfl g114 (fun g w hS => (yEql (g115.1 g) rfl)) (fun v116 g116 => ?_)
          refine qg rfl rfl rfl (fun g w hS => (yOr (g114.1 g) rfl (fun hB => (g116.1 ⟨g, hB⟩)))) (fun v117 g117 => ?_)
          refine qv (fun w hS => (yAnd rfl (fun hB => (g117.1 hB)) rfl)) ?_
          refine qv (fun w hS => (yMove rfl)) ?_
          refine qgc rfl rfl rfl Tryz.call20 (fun g => .nil) (fun g w hS => (c_Awake (hg.ext hS.ext))) (fun v120 g120 => ?_)
          refine qv (fun w hS => (yAnd rfl (fun hB => (g120.1 hB)) rfl)) ?_
          refine qv (fun w hS => (yAsg rfl)) ?_
          clear hS; refine qnil (fun w hS => ?_)
          show Code.wp _ _ _ _ _
          refine wp_ret ?_
          exact retV (res1 rfl (eqB (stages_bool hmk hn2).symm)) hS.ext
end Go.Proofs.YtmoilbakmlekbaaGreatDoor
/- part A18 -/
namespace Bx
open Go Go.RowKit
/-- The messages, the last one first, with their places. -/
def bk (log : List Msg) : Nat → List (Int × Msg)
  | 0 => []
  | k + 1 => ((k : Int), log.getD k ⟨0, 0, 0, 0, 0⟩) :: bk log k
abbrev Bks := List (Int × Msg)
def bkC (y : Int × Msg) : List Value := [.int .i64 y.1, .agg (msgC y.2).toArray]
theorem bk_hit {log : List Msg} {k : Nat} {x : Msg} (h : log[k]? = some x) : bk log (k + 1) = ((k : Int), x) :: bk log k := by
  rw [bk, List.getD_eq_getElem?_getD, h]; rfl
theorem bk_mem {log : List Msg} : ∀ {k : Nat} {y : Int × Msg}, k ≤ log.length → y ∈ bk log k → y.2 ∈ log ∧ ∃ j : Nat, j < k ∧ y.1 = (j : Int) ∧ log[j]? = some y.2
  | k + 1, y, hk, h => by
    obtain ⟨x, hx, -⟩ := drop_of (l := log) (k := k) (by omega)
    rw [bk_hit hx] at h
    rcases List.mem_cons.1 h with rfl | h
    · exact ⟨List.mem_of_getElem? hx, k, by omega, rfl, hx⟩
    · obtain ⟨h1, j, h2, h3⟩ := bk_mem (by omega) h
      exact ⟨h1, j, by omega, h3⟩
def hitB (t : Task) (i tk : Int) (y : Int × Msg) : Bool := decide (y.2.town = i) && decide (y.2.sent + (chn t y.2.channel).delay ≤ tk)
def knowO (t : Task) (log : List Msg) (i tk : Int) : Option (Int × Msg) := (bk log log.length).find? (hitB t i tk)
def knowsE (t : Task) (log : List Msg) (i tk : Int) : Int := if ofE t i ≠ 0 then ofE t i else if wrongF t log ≠ 0 then wrongF t log else if outB tk 0 200000 = true then 7 else 0
def knowsR (t : Task) (log : List Msg) (i tk : Int) : Int × Int × Int := if knowsE t log i tk ≠ 0 then (0, 0, knowsE t log i tk) else match knowO t log i tk with | none => (0, 0, 0) | some y => (y.2.stage, y.2.number, 0)
theorem find_at {α : Type} {p : α → Bool} {pre xs : List α} {y : α} (h : (pre ++ [y]) <+: xs) (hp : ∀ z ∈ pre, p z = false) (hy : p y = true) : xs.find? p = some y := by
  obtain ⟨r, rfl⟩ := h
  rw [List.append_assoc, List.find?_append, List.find?_eq_none.2 (fun z hz => by simp [hp z hz])]
  simp [hy]
theorem find_no {α : Type} {p : α → Bool} {xs : List α} (hp : ∀ z ∈ xs, p z = false) : xs.find? p = none := List.find?_eq_none.2 fun z hz => by simp [hp z hz]
theorem no_snoc {α : Type} {p : α → Bool} {pre : List α} {y : α} (hp : ∀ z ∈ pre, p z = false) (hy : p y = false) : ∀ z ∈ pre ++ [y], p z = false := fun z hz => by
  rcases List.mem_append.1 hz with h | h
  · exact hp z h
  · rw [List.mem_singleton.1 h]; exact hy
theorem knows_err {t : Task} {log : List Msg} {i tk e : Int} (h : knowsE t log i tk = e) (he : e ≠ 0) : knowsR t log i tk = (0, 0, e) := by unfold knowsR; rw [h, if_pos he]
theorem knows_some {t : Task} {log : List Msg} {i tk : Int} {y : Int × Msg} (h : knowsE t log i tk = 0) (hy : knowO t log i tk = some y) : knowsR t log i tk = (y.2.stage, y.2.number, 0) := by unfold knowsR; rw [if_neg (fun h' => h' h), hy]
theorem knows_none {t : Task} {log : List Msg} {i tk : Int} (h : knowsE t log i tk = 0) (hy : knowO t log i tk = none) : knowsR t log i tk = (0, 0, 0) := by unfold knowsR; rw [if_neg (fun h' => h' h), hy]
end Bx
/- part Aw20 -/
namespace Go.Proofs.YtmoilbakmlekbaaGreatDoor
open Go Bx
/-- slices.Backward   barrage/api.AlMessage,barrage/api.AlMessage  -/
theorem c_Back {log : List Msg} {al : Option Addr} {cl : Nat} {w0 : World} : CE Tryz.prog 82 #[.slice al log.length cl] w0 (fun u w' => ∃ p1, u = .func (.func 120) #[] [.pointer (some ⟨p1, 0, none⟩)].toArray ∧ St w0 w' [blk p1 [.slice al log.length cl] 62]) := by
  refine enter Tryz.func82 rfl Tryz.ntmps82 rfl ?_
  have hS := St.start w0
  refine seq ?_
  refine region ?_
  refine sbox hS rfl rfl ?_; clear hS; intro b1 w hS
  refine sv (yAsg rfl) ?_
  refine nil ?_
  show Code.wp _ _ _ _ _
  refine seq ?_
  refine region ?_
  refine sv (yFn (.cons rfl .nil)) ?_
  refine sv (yAsg rfl) ?_
  refine nil ?_
  show Code.wp _ _ _ _ _
  refine wp_ret ?_
  refine retQ (res1 rfl rfl) ?_
  exact ⟨b1, rfl, hS⟩
set_option maxHeartbeats 1000000 in
/-- slices.Backward   barrage/api.AlMessage,barrage/api.AlMessage  closure 1 -/
theorem it_Back {log : List Msg} {al : Option Addr} {cl : Nat} {p1 : Nat} {w0 : World} (hl : Sl w0 5 RMsg (.slice al log.length cl) log) : ItC Tryz.prog 120 [.pointer (some ⟨p1, 0, none⟩)] w0 [blk p1 [.slice al log.length cl] 62] bkC (bk log log.length) := by
  obtain ⟨_, _, hle, hlcap, hlmx, hlel⟩ := id hl
  obtain ⟨rfl, rfl⟩ := slice_inj hle.symm
  intro yl Cb w L hY h0 hS
  replace hS : StX [] w0 w (blk p1 [.slice al log.length cl] 62 :: L) := hS
  refine enterX Tryz.func120 rfl Tryz.ntmps120 rfl ?_
  skip
  refine seqX ?_
  refine regionX rfl ?_
  refine sv (yLdB rfl Tryz.isAgg62 (hS.at _) rfl) ?_
  refine sv (yLen rfl Tryz.underlying62) ?_
  refine sv (ySub rfl rfl ⟨by omega, by omega⟩) ?_
  refine sv (yAsg rfl) ?_
  refine nil ?_
  show Code.wpIn _ _ _ _ _ _ _
  refine blockX ?_
  refine loopX (fun f w zz => ∃ (k : Nat) (i : Int) (P : Bks) (L : List Bx.Item), f 0 = .func (.yield yl) #[] #[] ∧ f 1 = .pointer (some ⟨p1, 0, none⟩) ∧ f 3 = .int .i64 i ∧ StX [] w0 w (blk p1 [.slice al log.length cl] 62 :: L) ∧ (k ≤ log.length) ∧ (i = (k : Int) - 1) ∧ (P ++ bk log k = bk log log.length) ∧ (Cb true P L) ∧ zz = k + 1) _ ⟨_, rfl, log.length, _, [], L, rfl, rfl, rfl, hS, (Nat.le_refl _), (rfl), (rfl), (h0), rfl⟩ ?_
  clear hS
  rintro f w _ ⟨k, i, P, L, h0, h1, h3, hS, hk, hik, hP, hcb, rfl⟩
  refine seqX ?_
  refine seqX ?_
  refine regionX rfl ?_
  refine sv (yMove h3) ?_
  refine sv (yGeq rfl rfl) ?_
  refine nil ?_
  show Code.wpIn _ _ _ _ _ _ _
  refine condX rfl (fun c8 => ?_) (fun c8 => ?_)
  ·
    simp only [Bool.and_eq_true, Bool.or_eq_true, Bool.and_eq_false_iff, Bool.or_eq_false_iff, decide_eq_true_eq, decide_eq_false_iff_not, Bool.not_eq_true, Bool.not_eq_false, Bool.not_not, Bool.not_eq_eq_eq_not, Bool.not_true, Bool.not_false, Bool.false_eq_true, Bool.true_eq_false, ne_eq, Decidable.not_not, not_false_eq_true, not_true_eq_false] at c8
    obtain ⟨j, rfl⟩ : ∃ j, k = j + 1 := ⟨k - 1, by omega⟩
    obtain rfl : i = (j : Int) := by omega
    obtain ⟨x, hxx, hdx⟩ := drop_of (l := log) (k := j) (by omega)
    obtain ⟨bx, ox, csx, hax, hlenx, hcsx, hRx⟩ := hlel (j) (by omega)
    obtain rfl : x = log[j] := (List.getElem?_eq_some_iff.1 hxx).2.symm
    generalize log[j] = x at hxx hdx hRx
    obtain ⟨rfl, -⟩ := hRx
    rw [bk_hit hxx] at hP
    refine skipX ?_
    show Code.wpIn _ _ _ _ _ _ _
    refine seqX ?_
    refine blockX ?_
    refine seqX ?_
    refine regionL ?_
    refine preX 6 rfl ?_
    refine sv (yMove h0) ?_
    refine sv (yMove h3) ?_
    refine sv (yLdB h1 Tryz.isAgg62 (hS.at _) rfl) ?_
    refine sv (yMove h3) ?_
    refine sv (yIxa rfl hax rfl Tryz.runUnderlying62 Tryz.sizeOf70 (by omega) (by omega)) ?_
    refine sv (yLdA rfl Tryz.isAgg70 Tryz.sizeOf70 (hcsx.ext hS.ext) rfl) ?_
    refine nil ?_
    show wpListIn _ _ _ _ _ _ _ _
    refine yieldU rfl (.cons rfl (.cons rfl .nil)) (hY P ((j : Int), x) w L [blk p1 [.slice al log.length cl] 62] ⟨_, by rw [List.append_assoc]; exact hP⟩ hcb hS) ?_
    clear hS hcb; rintro _ w ⟨bq, L, rfl, hcb, hS⟩
    replace hS : StX [] w0 w (blk p1 [.slice al log.length cl] 62 :: L) := hS
    refine endX rfl ?_
    refine sv (yNot rfl) ?_
    refine nil ?_
    show Code.wpIn _ _ _ _ _ _ _
    refine condX rfl (fun c18 => ?_) (fun c18 => ?_)
    ·
      obtain rfl : bq = false := by cases bq; rfl; cases c18
      refine wpIn_ret (blockR (thenR (thenR (blockR ?_))))
      refine leafX (results_none rfl _ _ _) ?_
      exact ⟨L, hS.sub (.cons _ (List.Sublist.refl _)), .inr ⟨_, hcb⟩⟩
    ·
      obtain rfl : bq = true := by cases bq; cases c18; rfl
      refine skipX ?_
      show Code.wpIn _ _ _ _ _ _ _
      refine regionX rfl ?_
      refine sv (yMove h3) ?_
      refine sv (ySub rfl rfl ⟨by omega, by omega⟩) ?_
      refine sv (yAsg rfl) ?_
      refine nil ?_
      exact ⟨_, _, rfl, ⟨j, _, P ++ [((j : Int), x)], L, h0, h1, rfl, hS, (by omega), (rfl), (by rw [List.append_assoc]; exact hP), (hcb), rfl⟩, by omega⟩
  ·
    simp only [Bool.and_eq_true, Bool.or_eq_true, Bool.and_eq_false_iff, Bool.or_eq_false_iff, decide_eq_true_eq, decide_eq_false_iff_not, Bool.not_eq_true, Bool.not_eq_false, Bool.not_not, Bool.not_eq_eq_eq_not, Bool.not_true, Bool.not_false, Bool.false_eq_true, Bool.true_eq_false, ne_eq, Decidable.not_not, not_false_eq_true, not_true_eq_false] at c8
    obtain rfl : k = 0 := by omega
    rw [show bk log 0 = [] from rfl, List.append_nil] at hP
    subst hP
    refine exitX ?_
    show bodyPostM (FX none) 0 _ _ _ .normal _ _
    refine leafXN (results_none rfl _ _ _) ?_
    exact ⟨L, hS.sub (.cons _ (List.Sublist.refl _)), .inl hcb⟩
end Go.Proofs.YtmoilbakmlekbaaGreatDoor
/- part Aw21 -/
namespace Go.Proofs.YtmoilbakmlekbaaGreatDoor
open Go Bx
set_option maxHeartbeats 2000000 in
/-- barrage/alarm.Knows -/
theorem c_Knows {t : Task} {hv nv fv : Value} {i tk : Int} {log : List Msg} {lv : Value} {w0 : World} (hg : Glb w0) (h : RTask w0 [.int .i64 t.polders, hv, nv, fv] t) (hlg : Sl w0 5 RMsg lv log) : CV Tryz.prog 31 #[.agg [.int .i64 t.polders, hv, nv, fv].toArray, lv, .int .i64 i, .int .i64 tk] w0 (.tuple #[.int .i64 (knowsR t log i tk).1, .int .i64 (knowsR t log i tk).2.1, .int .i64 (knowsR t log i tk).2.2]) := by
  obtain ⟨hv', nv', fv', he0, hpol, hsh, hsn, hsf⟩ := id h
  obtain ⟨rfl, rfl, rfl⟩ : hv' = hv ∧ nv' = nv ∧ fv' = fv := by simpa [eq_comm] using he0
  obtain ⟨a1, cap1, rfl, hcap1, hmx1, hel1⟩ := id hsh
  obtain ⟨a2, cap2, rfl, hcap2, hmx2, hel2⟩ := id hsn
  obtain ⟨a3, cap3, rfl, hcap3, hmx3, hel3⟩ := id hsf
  obtain ⟨al, cl, rfl, hlcap, hlmx, hlel⟩ := id hlg
  refine enterX Tryz.func31 rfl Tryz.ntmps31 rfl ?_
  have hS := St.start w0
  refine seqX ?_
  refine regionX rfl ?_
  refine sbox hS rfl rfl ?_; clear hS; intro b4 w hS
  refine sbox hS rfl rfl ?_; clear hS; intro b6 w hS
  refine sbox hS rfl rfl ?_; clear hS; intro b7 w hS
  refine salloc hS Tryz.zeroValue3 rfl ?_; clear hS; intro b8 w hS
  refine salloc hS Tryz.zeroValue3 rfl ?_; clear hS; intro b9 w hS
  refine salloc hS Tryz.zeroValue28 rfl ?_; clear hS; intro b10 w hS
  refine nil ?_
  show Code.wpIn _ _ _ _ _ _ _
  refine seqX ?_
  refine regionX rfl ?_
  refine sv (yLdBA rfl Tryz.isAgg26 Tryz.sizeOf26 (hS.at _) rfl rfl) ?_
  refine sv (yLdB rfl Tryz.isAgg3 (hS.at _) rfl) ?_
  refine scall Tryz.call69 (.cons rfl (.cons rfl .nil)) (c_of (hg.ext hS.ext) (h.ext hS.ext)) ?_
  rintro _ w (⟨he, rfl, hE⟩ | ⟨he, bb, b1, bz, rfl, hM⟩)
  ·
    replace hS := hS.step hE; clear hE
    refine sv (yMove rfl) ?_
    refine sv (yExt rfl rfl) ?_
    refine sv (yExt rfl rfl) ?_
    refine salloc hS Tryz.zeroValue100 rfl ?_; clear hS; intro b11 w hS
    refine sst hS rfl rfl Tryz.sizeOf100 rfl rfl rfl rfl ?_; clear hS; intro w hS
    refine sst hS rfl rfl Tryz.sizeOf28 rfl rfl rfl rfl ?_; clear hS; intro w hS
    refine nil ?_
    show Code.wpIn _ _ _ _ _ _ _
    refine seqX ?_
    refine seqX ?_
    refine regionX rfl ?_
    refine sv (yLdB rfl Tryz.isAgg28 (hS.at _) rfl) ?_
    refine sv (yEql rfl rfl) ?_
    refine nil ?_
    show Code.wpIn _ _ _ _ _ _ _
    refine condX rfl (fun c21 => ?_) (fun c21 => ?_)
    ·
      simp only [Bool.and_eq_true, Bool.or_eq_true, Bool.and_eq_false_iff, Bool.or_eq_false_iff, decide_eq_true_eq, decide_eq_false_iff_not, Bool.not_eq_true, Bool.not_eq_false, Bool.not_not, Bool.not_eq_eq_eq_not, Bool.not_true, Bool.not_false, Bool.false_eq_true, Bool.true_eq_false, ne_eq, Decidable.not_not, not_false_eq_true, not_true_eq_false] at c21
      exact absurd c21 he
    ·
      simp only [Bool.and_eq_true, Bool.or_eq_true, Bool.and_eq_false_iff, Bool.or_eq_false_iff, decide_eq_true_eq, decide_eq_false_iff_not, Bool.not_eq_true, Bool.not_eq_false, Bool.not_not, Bool.not_eq_eq_eq_not, Bool.not_true, Bool.not_false, Bool.false_eq_true, Bool.true_eq_false, ne_eq, Decidable.not_not, not_false_eq_true, not_true_eq_false] at c21
      refine skipX ?_
      show Code.wpIn _ _ _ _ _ _ _
      refine seqX ?_
      refine blockX ?_
      refine seqX ?_
      refine regionX rfl ?_
      refine sv (yLdB rfl Tryz.isAgg28 (hS.at _) rfl) ?_
      refine sv (yNeq rfl rfl) ?_
      refine sv (yAsg rfl) ?_
      refine nil ?_
      show Code.wpIn _ _ _ _ _ _ _
      refine condX rfl (fun c25 => ?_) (fun c25 => ?_)
      ·
        simp only [Bool.and_eq_true, Bool.or_eq_true, Bool.and_eq_false_iff, Bool.or_eq_false_iff, decide_eq_true_eq, decide_eq_false_iff_not, Bool.not_eq_true, Bool.not_eq_false, Bool.not_not, Bool.not_eq_eq_eq_not, Bool.not_true, Bool.not_false, Bool.false_eq_true, Bool.true_eq_false, ne_eq, Decidable.not_not, not_false_eq_true, not_true_eq_false] at c25
        refine seqX ?_
        refine region_anyX (C := (fun _ => True)) mixed 0 4 (by kernel_rfl) rfl hS (fun _ _ => trivial) ?_
        clear hS; intro w hS
        refine hnil ?_
        show wpA _ _ _ _ _ _ _ _ _ _
        refine a_step (i := 0) (is := [1]) (by kernel_rfl) ⟨?_, ?_, trivial⟩
        ·
          refine ⟨_, rfl, ?_⟩
          refine sv (yLdB rfl Tryz.isAgg28 (hS.at _) rfl) ?_
          refine nil ?_
          refine ⟨fun _ => trivial, ?_⟩
          show wpA _ _ _ _ _ _ _ _ _ _
          refine a_step (i := 1) (is := []) (by kernel_rfl) ⟨?_, trivial⟩
          refine ⟨_, rfl, ?_⟩
          refine sst hS rfl rfl Tryz.sizeOf3 rfl rfl rfl rfl ?_; clear hS; intro w hS
          refine nil ?_
          refine ⟨fun _ => trivial, ?_⟩
          show wpA _ _ _ _ _ _ _ _ _ _
          refine a_step (i := 2) (is := []) (by kernel_rfl) ⟨?_, trivial⟩
          refine ⟨_, rfl, ?_⟩
          refine sst hS rfl rfl Tryz.sizeOf3 rfl rfl rfl rfl ?_; clear hS; intro w hS
          refine nil ?_
          refine ⟨fun _ => trivial, ?_⟩
          show wpA _ _ _ _ _ _ _ _ _ _
          refine a_step (i := 3) (is := []) (by kernel_rfl) ⟨?_, trivial⟩
          refine ⟨_, rfl, ?_⟩
          refine sst hS rfl rfl Tryz.sizeOf28 rfl rfl rfl rfl ?_; clear hS; intro w hS
          refine nil ?_
          refine ⟨fun _ => trivial, ?_⟩
          show wpA _ _ _ _ _ _ _ _ _ _
          refine a_end (by kernel_rfl) ?_
          show Code.wpIn _ _ _ _ _ _ _
          refine wpIn_ret (blockR (thenR ?_))
          refine leafX (resV3 rfl (rc1 rfl Tryz.isAgg3 (hS.at _) rfl) (rc1 rfl Tryz.isAgg3 (hS.at _) rfl) (rc1 rfl Tryz.isAgg28 (hS.at _) rfl)) ?_
          have hE : knowsE t log i tk = ofE t i := by unfold knowsE; rw [if_pos he]
          exact ⟨by rw [knows_err hE (by first | exact he | exact c25 | decide)]; try rfl, hS.ext⟩
        ·
          refine ⟨_, rfl, ?_⟩
          refine sst hS rfl rfl Tryz.sizeOf3 rfl rfl rfl rfl ?_; clear hS; intro w hS
          refine nil ?_
          refine ⟨fun _ => trivial, ?_⟩
          show wpA _ _ _ _ _ _ _ _ _ _
          refine a_step (i := 0) (is := [2]) (by kernel_rfl) ⟨?_, ?_, trivial⟩
          ·
            refine ⟨_, rfl, ?_⟩
            refine sv (yLdB rfl Tryz.isAgg28 (hS.at _) rfl) ?_
            refine nil ?_
            refine ⟨fun _ => trivial, ?_⟩
            show wpA _ _ _ _ _ _ _ _ _ _
            refine a_step (i := 2) (is := []) (by kernel_rfl) ⟨?_, trivial⟩
            refine ⟨_, rfl, ?_⟩
            refine sst hS rfl rfl Tryz.sizeOf3 rfl rfl rfl rfl ?_; clear hS; intro w hS
            refine nil ?_
            refine ⟨fun _ => trivial, ?_⟩
            show wpA _ _ _ _ _ _ _ _ _ _
            refine a_step (i := 3) (is := []) (by kernel_rfl) ⟨?_, trivial⟩
            refine ⟨_, rfl, ?_⟩
            refine sst hS rfl rfl Tryz.sizeOf28 rfl rfl rfl rfl ?_; clear hS; intro w hS
            refine nil ?_
            refine ⟨fun _ => trivial, ?_⟩
            show wpA _ _ _ _ _ _ _ _ _ _
            refine a_end (by kernel_rfl) ?_
            show Code.wpIn _ _ _ _ _ _ _
            refine wpIn_ret (blockR (thenR ?_))
            refine leafX (resV3 rfl (rc1 rfl Tryz.isAgg3 (hS.at _) rfl) (rc1 rfl Tryz.isAgg3 (hS.at _) rfl) (rc1 rfl Tryz.isAgg28 (hS.at _) rfl)) ?_
            have hE : knowsE t log i tk = ofE t i := by unfold knowsE; rw [if_pos he]
            exact ⟨by rw [knows_err hE (by first | exact he | exact c25 | decide)]; try rfl, hS.ext⟩
          ·
            refine ⟨_, rfl, ?_⟩
            refine sst hS rfl rfl Tryz.sizeOf3 rfl rfl rfl rfl ?_; clear hS; intro w hS
            refine nil ?_
            refine ⟨fun _ => trivial, ?_⟩
            show wpA _ _ _ _ _ _ _ _ _ _
            refine a_step (i := 0) (is := []) (by kernel_rfl) ⟨?_, trivial⟩
            refine ⟨_, rfl, ?_⟩
            refine sv (yLdB rfl Tryz.isAgg28 (hS.at _) rfl) ?_
            refine nil ?_
            refine ⟨fun _ => trivial, ?_⟩
            show wpA _ _ _ _ _ _ _ _ _ _
            refine a_step (i := 3) (is := []) (by kernel_rfl) ⟨?_, trivial⟩
            refine ⟨_, rfl, ?_⟩
            refine sst hS rfl rfl Tryz.sizeOf28 rfl rfl rfl rfl ?_; clear hS; intro w hS
            refine nil ?_
            refine ⟨fun _ => trivial, ?_⟩
            show wpA _ _ _ _ _ _ _ _ _ _
            refine a_end (by kernel_rfl) ?_
            show Code.wpIn _ _ _ _ _ _ _
            refine wpIn_ret (blockR (thenR ?_))
            refine leafX (resV3 rfl (rc1 rfl Tryz.isAgg3 (hS.at _) rfl) (rc1 rfl Tryz.isAgg3 (hS.at _) rfl) (rc1 rfl Tryz.isAgg28 (hS.at _) rfl)) ?_
            have hE : knowsE t log i tk = ofE t i := by unfold knowsE; rw [if_pos he]
            exact ⟨by rw [knows_err hE (by first | exact he | exact c25 | decide)]; try rfl, hS.ext⟩
      ·
        simp only [Bool.and_eq_true, Bool.or_eq_true, Bool.and_eq_false_iff, Bool.or_eq_false_iff, decide_eq_true_eq, decide_eq_false_iff_not, Bool.not_eq_true, Bool.not_eq_false, Bool.not_not, Bool.not_eq_eq_eq_not, Bool.not_true, Bool.not_false, Bool.false_eq_true, Bool.true_eq_false, ne_eq, Decidable.not_not, not_false_eq_true, not_true_eq_false] at c25
        exact absurd c25 he
  ·
    replace hS := hS.call hM; clear hM
    replace hS : StX [] w0 w [blk bb [.int .i64 t.polders, .slice a1 t.chans.length cap1, .slice a2 t.towns.length cap2, .slice a3 t.floods.length cap3, .slice (some ⟨b1, 0, none⟩) t.towns.length t.towns.length, .slice (some ⟨bz, 0, none⟩) t.towns.length t.towns.length] 141, blk b1 ((arrS t).flatMap spanC) 44, blk bz ((arrN t).flatMap Bx.encI) 3, blk b10 [.int .i64 0] 28, blk b9 [.int .i64 0] 3, blk b8 [.int .i64 0] 3, blk b7 [.int .i64 tk] 3, blk b6 [.int .i64 i] 3, blk b4 [.int .i64 t.polders, .slice a1 t.chans.length cap1, .slice a2 t.towns.length cap2, .slice a3 t.floods.length cap3] 26] := hS
    obtain ⟨hok, hi⟩ := ofE_ok he
    refine sv (yMove rfl) ?_
    refine sv (yExt rfl rfl) ?_
    refine sv (yExt rfl rfl) ?_
    refine salloc hS Tryz.zeroValue100 rfl ?_; clear hS; intro b11 w hS
    refine sst hS rfl rfl Tryz.sizeOf100 rfl rfl rfl rfl ?_; clear hS; intro w hS
    refine sst hS rfl rfl Tryz.sizeOf28 rfl rfl rfl rfl ?_; clear hS; intro w hS
    refine nil ?_
    show Code.wpIn _ _ _ _ _ _ _
    refine seqX ?_
    refine seqX ?_
    refine regionX rfl ?_
    refine sv (yLdB rfl Tryz.isAgg28 (hS.at _) rfl) ?_
    refine sv (yEql rfl rfl) ?_
    refine nil ?_
    show Code.wpIn _ _ _ _ _ _ _
    refine condX rfl (fun c21 => ?_) (fun c21 => ?_)
    ·
      refine regionX rfl ?_
      refine sv (yLdB rfl Tryz.isAgg100 (hS.at _) rfl) ?_
      refine sv (yMove rfl) ?_
      refine scall Tryz.call81 (.cons rfl (.cons rfl .nil)) (c_wrong (board_mk (hS.at bb) (h.ext hS.ext) hok (hS.at b1) (hS.at bz)) (hlg.ext RMsg.stays hS.ext)) ?_
      rintro _ w ⟨rfl, hE⟩; replace hS := hS.step hE; clear hE
      refine sst hS rfl rfl Tryz.sizeOf28 rfl rfl rfl rfl ?_; clear hS; intro w hS
      refine nil ?_
      show Code.wpIn _ _ _ _ _ _ _
      refine seqX ?_
      refine blockX ?_
      refine seqX ?_
      refine regionX rfl ?_
      refine sv (yLdB rfl Tryz.isAgg28 (hS.at _) rfl) ?_
      refine sv (yNeq rfl rfl) ?_
      refine sv (yAsg rfl) ?_
      refine nil ?_
      show Code.wpIn _ _ _ _ _ _ _
      refine condX rfl (fun c25 => ?_) (fun c25 => ?_)
      ·
        simp only [Bool.and_eq_true, Bool.or_eq_true, Bool.and_eq_false_iff, Bool.or_eq_false_iff, decide_eq_true_eq, decide_eq_false_iff_not, Bool.not_eq_true, Bool.not_eq_false, Bool.not_not, Bool.not_eq_eq_eq_not, Bool.not_true, Bool.not_false, Bool.false_eq_true, Bool.true_eq_false, ne_eq, Decidable.not_not, not_false_eq_true, not_true_eq_false] at c25
        refine seqX ?_
        refine region_anyX (C := (fun _ => True)) mixed 0 4 (by kernel_rfl) rfl hS (fun _ _ => trivial) ?_
        clear hS; intro w hS
        refine hnil ?_
        show wpA _ _ _ _ _ _ _ _ _ _
        refine a_step (i := 0) (is := [1]) (by kernel_rfl) ⟨?_, ?_, trivial⟩
        ·
          refine ⟨_, rfl, ?_⟩
          refine sv (yLdB rfl Tryz.isAgg28 (hS.at _) rfl) ?_
          refine nil ?_
          refine ⟨fun _ => trivial, ?_⟩
          show wpA _ _ _ _ _ _ _ _ _ _
          refine a_step (i := 1) (is := []) (by kernel_rfl) ⟨?_, trivial⟩
          refine ⟨_, rfl, ?_⟩
          refine sst hS rfl rfl Tryz.sizeOf3 rfl rfl rfl rfl ?_; clear hS; intro w hS
          refine nil ?_
          refine ⟨fun _ => trivial, ?_⟩
          show wpA _ _ _ _ _ _ _ _ _ _
          refine a_step (i := 2) (is := []) (by kernel_rfl) ⟨?_, trivial⟩
          refine ⟨_, rfl, ?_⟩
          refine sst hS rfl rfl Tryz.sizeOf3 rfl rfl rfl rfl ?_; clear hS; intro w hS
          refine nil ?_
          refine ⟨fun _ => trivial, ?_⟩
          show wpA _ _ _ _ _ _ _ _ _ _
          refine a_step (i := 3) (is := []) (by kernel_rfl) ⟨?_, trivial⟩
          refine ⟨_, rfl, ?_⟩
          refine sst hS rfl rfl Tryz.sizeOf28 rfl rfl rfl rfl ?_; clear hS; intro w hS
          refine nil ?_
          refine ⟨fun _ => trivial, ?_⟩
          show wpA _ _ _ _ _ _ _ _ _ _
          refine a_end (by kernel_rfl) ?_
          show Code.wpIn _ _ _ _ _ _ _
          refine wpIn_ret (blockR (thenR ?_))
          refine leafX (resV3 rfl (rc1 rfl Tryz.isAgg3 (hS.at _) rfl) (rc1 rfl Tryz.isAgg3 (hS.at _) rfl) (rc1 rfl Tryz.isAgg28 (hS.at _) rfl)) ?_
          have hE : knowsE t log i tk = (wrongF t log) := by unfold knowsE; rw [if_neg (fun h => h he), if_pos c25]
          exact ⟨by rw [knows_err hE (by first | exact he | exact c25 | decide)]; try rfl, hS.ext⟩
        ·
          refine ⟨_, rfl, ?_⟩
          refine sst hS rfl rfl Tryz.sizeOf3 rfl rfl rfl rfl ?_; clear hS; intro w hS
          refine nil ?_
          refine ⟨fun _ => trivial, ?_⟩
          show wpA _ _ _ _ _ _ _ _ _ _
          refine a_step (i := 0) (is := [2]) (by kernel_rfl) ⟨?_, ?_, trivial⟩
          ·
            refine ⟨_, rfl, ?_⟩
            refine sv (yLdB rfl Tryz.isAgg28 (hS.at _) rfl) ?_
            refine nil ?_
            refine ⟨fun _ => trivial, ?_⟩
            show wpA _ _ _ _ _ _ _ _ _ _
            refine a_step (i := 2) (is := []) (by kernel_rfl) ⟨?_, trivial⟩
            refine ⟨_, rfl, ?_⟩
            refine sst hS rfl rfl Tryz.sizeOf3 rfl rfl rfl rfl ?_; clear hS; intro w hS
            refine nil ?_
            refine ⟨fun _ => trivial, ?_⟩
            show wpA _ _ _ _ _ _ _ _ _ _
            refine a_step (i := 3) (is := []) (by kernel_rfl) ⟨?_, trivial⟩
            refine ⟨_, rfl, ?_⟩
            refine sst hS rfl rfl Tryz.sizeOf28 rfl rfl rfl rfl ?_; clear hS; intro w hS
            refine nil ?_
            refine ⟨fun _ => trivial, ?_⟩
            show wpA _ _ _ _ _ _ _ _ _ _
            refine a_end (by kernel_rfl) ?_
            show Code.wpIn _ _ _ _ _ _ _
            refine wpIn_ret (blockR (thenR ?_))
            refine leafX (resV3 rfl (rc1 rfl Tryz.isAgg3 (hS.at _) rfl) (rc1 rfl Tryz.isAgg3 (hS.at _) rfl) (rc1 rfl Tryz.isAgg28 (hS.at _) rfl)) ?_
            have hE : knowsE t log i tk = (wrongF t log) := by unfold knowsE; rw [if_neg (fun h => h he), if_pos c25]
            exact ⟨by rw [knows_err hE (by first | exact he | exact c25 | decide)]; try rfl, hS.ext⟩
          ·
            refine ⟨_, rfl, ?_⟩
            refine sst hS rfl rfl Tryz.sizeOf3 rfl rfl rfl rfl ?_; clear hS; intro w hS
            refine nil ?_
            refine ⟨fun _ => trivial, ?_⟩
            show wpA _ _ _ _ _ _ _ _ _ _
            refine a_step (i := 0) (is := []) (by kernel_rfl) ⟨?_, trivial⟩
            refine ⟨_, rfl, ?_⟩
            refine sv (yLdB rfl Tryz.isAgg28 (hS.at _) rfl) ?_
            refine nil ?_
            refine ⟨fun _ => trivial, ?_⟩
            show wpA _ _ _ _ _ _ _ _ _ _
            refine a_step (i := 3) (is := []) (by kernel_rfl) ⟨?_, trivial⟩
            refine ⟨_, rfl, ?_⟩
            refine sst hS rfl rfl Tryz.sizeOf28 rfl rfl rfl rfl ?_; clear hS; intro w hS
            refine nil ?_
            refine ⟨fun _ => trivial, ?_⟩
            show wpA _ _ _ _ _ _ _ _ _ _
            refine a_end (by kernel_rfl) ?_
            show Code.wpIn _ _ _ _ _ _ _
            refine wpIn_ret (blockR (thenR ?_))
            refine leafX (resV3 rfl (rc1 rfl Tryz.isAgg3 (hS.at _) rfl) (rc1 rfl Tryz.isAgg3 (hS.at _) rfl) (rc1 rfl Tryz.isAgg28 (hS.at _) rfl)) ?_
            have hE : knowsE t log i tk = (wrongF t log) := by unfold knowsE; rw [if_neg (fun h => h he), if_pos c25]
            exact ⟨by rw [knows_err hE (by first | exact he | exact c25 | decide)]; try rfl, hS.ext⟩
      ·
        simp only [Bool.and_eq_true, Bool.or_eq_true, Bool.and_eq_false_iff, Bool.or_eq_false_iff, decide_eq_true_eq, decide_eq_false_iff_not, Bool.not_eq_true, Bool.not_eq_false, Bool.not_not, Bool.not_eq_eq_eq_not, Bool.not_true, Bool.not_false, Bool.false_eq_true, Bool.true_eq_false, ne_eq, Decidable.not_not, not_false_eq_true, not_true_eq_false] at c25
        refine seqX ?_
        refine regionX rfl ?_
        refine sv (yLdB rfl Tryz.isAgg3 (hS.at _) rfl) ?_
        refine scall Tryz.call52 (.cons rfl (.cons rfl (.cons rfl .nil))) c_out ?_
        rintro _ w ⟨rfl, hE⟩; replace hS := hS.step hE; clear hE
        refine sv (yAsg rfl) ?_
        refine nil ?_
        show Code.wpIn _ _ _ _ _ _ _
        refine condX rfl (fun c29 => ?_) (fun c29 => ?_)
        ·
          refine seqX ?_
          refine regionX rfl ?_
          refine sst hS rfl rfl Tryz.sizeOf3 rfl rfl rfl rfl ?_; clear hS; intro w hS
          refine sst hS rfl rfl Tryz.sizeOf3 rfl rfl rfl rfl ?_; clear hS; intro w hS
          refine sst hS rfl rfl Tryz.sizeOf28 rfl rfl rfl rfl ?_; clear hS; intro w hS
          refine nil ?_
          show Code.wpIn _ _ _ _ _ _ _
          refine wpIn_ret (blockR (thenR ?_))
          refine leafX (resV3 rfl (rc1 rfl Tryz.isAgg3 (hS.at _) rfl) (rc1 rfl Tryz.isAgg3 (hS.at _) rfl) (rc1 rfl Tryz.isAgg28 (hS.at _) rfl)) ?_
          have hE : knowsE t log i tk = 7 := by unfold knowsE; rw [if_neg (fun h => h he), if_neg (fun h => h c25), if_pos c29]
          exact ⟨by rw [knows_err hE (by first | exact he | exact c25 | decide)]; try rfl, hS.ext⟩
        ·
          refine skipX ?_
          show Code.wpIn _ _ _ _ _ _ _
          refine seqX ?_
          refine seqX ?_
          refine regionX rfl ?_
          refine sv (yMove rfl) ?_
          have hE : knowsE t log i tk = 0 := by unfold knowsE; rw [if_neg (fun h => h he), if_neg (fun h => h c25), if_neg (by rw [c29]; decide)]
          obtain ⟨hlz, hmo, -, -⟩ := wrongF_ok c25
          have htk := outB_false.1 c29
          refine scall Tryz.call82 (.cons rfl .nil) c_Back ?_
          rintro _ w ⟨p1, rfl, hM⟩; replace hS := hS.call hM; clear hM
          refine nil ?_
          show Code.wpIn _ _ _ _ _ _ _
          refine blockX ?_
          refine rangeX (R := [blk p1 [.slice al log.length cl] 62]) (L0 := [blk b11 [.pointer (some ⟨bb, 0, none⟩)] 100, blk bb [.int .i64 t.polders, .slice a1 t.chans.length cap1, .slice a2 t.towns.length cap2, .slice a3 t.floods.length cap3, .slice (some ⟨b1, 0, none⟩) t.towns.length t.towns.length, .slice (some ⟨bz, 0, none⟩) t.towns.length t.towns.length] 141, blk b1 ((arrS t).flatMap spanC) 44, blk bz ((arrN t).flatMap Bx.encI) 3, blk b10 [.int .i64 (wrongF t log)] 28, blk b9 [.int .i64 0] 3, blk b8 [.int .i64 0] 3, blk b7 [.int .i64 tk] 3, blk b6 [.int .i64 i] 3, blk b4 [.int .i64 t.polders, .slice a1 t.chans.length cap1, .slice a2 t.towns.length cap2, .slice a3 t.floods.length cap3] 26]) (ps := [34, 35]) rfl Tryz.call120 hS (it_Back hlg) (fun cc pre L => (cc = none ∧ L = [blk b11 [.pointer (some ⟨bb, 0, none⟩)] 100, blk bb [.int .i64 t.polders, .slice a1 t.chans.length cap1, .slice a2 t.towns.length cap2, .slice a3 t.floods.length cap3, .slice (some ⟨b1, 0, none⟩) t.towns.length t.towns.length, .slice (some ⟨bz, 0, none⟩) t.towns.length t.towns.length] 141, blk b1 ((arrS t).flatMap spanC) 44, blk bz ((arrN t).flatMap Bx.encI) 3, blk b10 [.int .i64 (wrongF t log)] 28, blk b9 [.int .i64 0] 3, blk b8 [.int .i64 0] 3, blk b7 [.int .i64 tk] 3, blk b6 [.int .i64 i] 3, blk b4 [.int .i64 t.polders, .slice a1 t.chans.length cap1, .slice a2 t.towns.length cap2, .slice a3 t.floods.length cap3] 26] ∧ ∀ z ∈ pre, hitB t i tk z = false) ∨ (cc = some .ret ∧ ∃ y, knowO t log i tk = some y ∧ L = [blk b11 [.pointer (some ⟨bb, 0, none⟩)] 100, blk bb [.int .i64 t.polders, .slice a1 t.chans.length cap1, .slice a2 t.towns.length cap2, .slice a3 t.floods.length cap3, .slice (some ⟨b1, 0, none⟩) t.towns.length t.towns.length, .slice (some ⟨bz, 0, none⟩) t.towns.length t.towns.length] 141, blk b1 ((arrS t).flatMap spanC) 44, blk bz ((arrN t).flatMap Bx.encI) 3, blk b10 [.int .i64 0] 28, blk b9 [.int .i64 y.2.number] 3, blk b8 [.int .i64 y.2.stage] 3, blk b7 [.int .i64 tk] 3, blk b6 [.int .i64 i] 3, blk b4 [.int .i64 t.polders, .slice a1 t.chans.length cap1, .slice a2 t.towns.length cap2, .slice a3 t.floods.length cap3] 26])) (.inl ⟨rfl, rfl, fun _ h => (nomatch h)⟩) (fun _ _ => rfl) ?_ ?_ ?_
          ·
            clear hS
            intro yl pre y w L M hpre hcb hS
            obtain ⟨-, rfl, hno⟩ := hcb.resolve_right (fun h => by cases h.1)
            replace hS : StX [] w0 w (blk b11 [.pointer (some ⟨bb, 0, none⟩)] 100 :: blk bb [.int .i64 t.polders, .slice a1 t.chans.length cap1, .slice a2 t.towns.length cap2, .slice a3 t.floods.length cap3, .slice (some ⟨b1, 0, none⟩) t.towns.length t.towns.length, .slice (some ⟨bz, 0, none⟩) t.towns.length t.towns.length] 141 :: blk b1 ((arrS t).flatMap spanC) 44 :: blk bz ((arrN t).flatMap Bx.encI) 3 :: blk b10 [.int .i64 (wrongF t log)] 28 :: blk b9 [.int .i64 0] 3 :: blk b8 [.int .i64 0] 3 :: blk b7 [.int .i64 tk] 3 :: blk b6 [.int .i64 i] 3 :: blk b4 [.int .i64 t.polders, .slice a1 t.chans.length cap1, .slice a2 t.towns.length cap2, .slice a3 t.floods.length cap3] 26 :: M) := hS
            obtain ⟨hym, -⟩ := bk_mem (Nat.le_refl _) (show y ∈ bk log log.length from by obtain ⟨r, hr⟩ := id hpre; rw [← hr]; simp)
            have hmy := hmo y.2 hym
            have hyc := hmy.chan
            have hys := hmy.sent
            obtain ⟨bc, oc, csc, hac, hlc, hcsc, hRc, -⟩ := sl_at hsh (chn_i (t := t) hyc)
            obtain ⟨rfl, -⟩ := hRc
            have hco := chan_ok hok hyc
            refine regionX rfl ?_
            refine salloc hS Tryz.zeroValue70 rfl ?_; clear hS; intro b13 w hS
            refine sst hS rfl rfl Tryz.sizeOf70 rfl rfl rfl rfl ?_; clear hS; intro w hS
            refine nil ?_
            refine ⟨_, [blk b13 (msgC y.2) 70, blk b11 [.pointer (some ⟨bb, 0, none⟩)] 100, blk bb [.int .i64 t.polders, .slice a1 t.chans.length cap1, .slice a2 t.towns.length cap2, .slice a3 t.floods.length cap3, .slice (some ⟨b1, 0, none⟩) t.towns.length t.towns.length, .slice (some ⟨bz, 0, none⟩) t.towns.length t.towns.length] 141, blk b1 ((arrS t).flatMap spanC) 44, blk bz ((arrN t).flatMap Bx.encI) 3, blk b10 [.int .i64 (wrongF t log)] 28, blk b9 [.int .i64 0] 3, blk b8 [.int .i64 0] 3, blk b7 [.int .i64 tk] 3, blk b6 [.int .i64 i] 3, blk b4 [.int .i64 t.polders, .slice a1 t.chans.length cap1, .slice a2 t.towns.length cap2, .slice a3 t.floods.length cap3] 26], rfl, hS, ?_⟩
            clear hS M; intro M w hS; replace hS : StX [] w0 w (blk b13 (msgC y.2) 70 :: blk b11 [.pointer (some ⟨bb, 0, none⟩)] 100 :: blk bb [.int .i64 t.polders, .slice a1 t.chans.length cap1, .slice a2 t.towns.length cap2, .slice a3 t.floods.length cap3, .slice (some ⟨b1, 0, none⟩) t.towns.length t.towns.length, .slice (some ⟨bz, 0, none⟩) t.towns.length t.towns.length] 141 :: blk b1 ((arrS t).flatMap spanC) 44 :: blk bz ((arrN t).flatMap Bx.encI) 3 :: blk b10 [.int .i64 (wrongF t log)] 28 :: blk b9 [.int .i64 0] 3 :: blk b8 [.int .i64 0] 3 :: blk b7 [.int .i64 tk] 3 :: blk b6 [.int .i64 i] 3 :: blk b4 [.int .i64 t.polders, .slice a1 t.chans.length cap1, .slice a2 t.towns.length cap2, .slice a3 t.floods.length cap3] 26 :: M) := hS
            refine blockX ?_
            refine seqX ?_
            refine region_drawX mixed (by kernel_rfl) rfl hS ?_
            refine qv (fun w hS => (fa70_1 rfl)) ?_
            refine qv (fun w hS => (yLdB rfl Tryz.isAgg3 (hS.at _) rfl)) ?_
            refine qv (fun w hS => (yLdB rfl Tryz.isAgg3 (hS.at _) rfl)) ?_
            refine qv (fun w hS => (yEql rfl rfl)) ?_
            refine qv (fun w hS => (yMove rfl)) ?_
            refine qg rfl rfl rfl (fun g w hS => (fa70_4 rfl)) (fun v41 g41 => ?_)
            refine qg rfl rfl rfl (fun g w hS => (yLdB (g41.1 g) Tryz.isAgg3 (hS.at _) rfl)) (fun v42 g42 => ?_)
            refine qg rfl rfl rfl (fun g w hS => (yLdB rfl Tryz.isAgg100 (hS.at _) rfl)) (fun v43 g43 => ?_)
            refine qg rfl rfl rfl (fun g w hS => (yNil (g43.1 g))) (fun v44 g44 => ?_)
            refine qg rfl rfl rfl (fun g w hS => (fa141_0 (g44.1 g))) (fun v45 g45 => ?_)
            refine qg rfl rfl rfl (fun g w hS => (fa26_1 (g45.1 g))) (fun v46 g46 => ?_)
            refine qg rfl rfl rfl (fun g w hS => (yLdB (g46.1 g) Tryz.isAgg22 (hS.at _) rfl)) (fun v47 g47 => ?_)
            refine qg rfl rfl rfl (fun g w hS => (fa70_3 rfl)) (fun v48 g48 => ?_)
            refine qg rfl rfl rfl (fun g w hS => (yLdB (g48.1 g) Tryz.isAgg3 (hS.at _) rfl)) (fun v49 g49 => ?_)
            refine qg rfl rfl rfl (fun g w hS => (yIxa (g47.1 g) hac (g49.1 g) Tryz.runUnderlying22 Tryz.sizeOf41 (by omega) (by omega))) (fun v50 g50 => ?_)
            refine qg rfl rfl rfl (fun g w hS => (fa41_1 (g50.1 g))) (fun v51 g51 => ?_)
            refine qg rfl rfl rfl (fun g w hS => (yLd (g51.1 g) Tryz.isAgg3 ((hcsc.ext hS.ext).at (j := 1) rfl))) (fun v52 g52 => ?_)
            refine qg rfl rfl rfl (fun g w hS => (yAdd (g42.1 g) (g52.1 g) ⟨by omega, by omega⟩)) (fun v53 g53 => ?_)
            refine qg rfl rfl rfl (fun g w hS => (yLdB rfl Tryz.isAgg3 (hS.at _) rfl)) (fun v54 g54 => ?_)
            refine qg rfl rfl rfl (fun g w hS => (yLeq (g53.1 g) (g54.1 g))) (fun v55 g55 => ?_)
            refine qv (fun w hS => (yAnd rfl (fun hB => (g55.1 hB)) rfl)) ?_
            clear hS; refine qnil (fun w hS => ?_)
            show Code.wpIn _ _ _ _ _ _ _
            refine condX rfl (fun c56 => ?_) (fun c56 => ?_)
            ·
              refine seqX ?_
              refine region_anyX (C := (fun w => w.heap[b13]? = some (.cells (msgC y.2).toArray 70 (0, 0)))) mixed 4 7 (by kernel_rfl) rfl hS (fun _ h => h.at b13) ?_
              clear hS; intro w hS
              refine hv (fun w hS => (fa70_2 rfl)) ?_
              refine hv (fun w hS => (yLdB rfl Tryz.isAgg3 hS rfl)) ?_
              refine hv (fun w hS => (fa70_0 rfl)) ?_
              refine hv (fun w hS => (yLdB rfl Tryz.isAgg3 hS rfl)) ?_
              refine hnil ?_
              show wpA _ _ _ _ _ _ _ _ _ _
              refine a_step (i := 4) (is := []) (by kernel_rfl) ⟨?_, trivial⟩
              refine ⟨_, rfl, ?_⟩
              refine sst hS rfl rfl Tryz.sizeOf3 rfl rfl rfl rfl ?_; clear hS; intro w hS
              refine nil ?_
              refine ⟨fun _ => hS.at b13, ?_⟩
              show wpA _ _ _ _ _ _ _ _ _ _
              refine a_step (i := 5) (is := []) (by kernel_rfl) ⟨?_, trivial⟩
              refine ⟨_, rfl, ?_⟩
              refine sst hS rfl rfl Tryz.sizeOf3 rfl rfl rfl rfl ?_; clear hS; intro w hS
              refine nil ?_
              refine ⟨fun _ => hS.at b13, ?_⟩
              show wpA _ _ _ _ _ _ _ _ _ _
              refine a_step (i := 6) (is := []) (by kernel_rfl) ⟨?_, trivial⟩
              refine ⟨_, rfl, ?_⟩
              refine sst hS rfl rfl Tryz.sizeOf28 rfl rfl rfl rfl ?_; clear hS; intro w hS
              refine nil ?_
              refine ⟨fun _ => hS.at b13, ?_⟩
              show wpA _ _ _ _ _ _ _ _ _ _
              refine a_end (by kernel_rfl) ?_
              show Code.wpIn _ _ _ _ _ _ _
              refine wpIn_ret (blockR ?_)
              exact ⟨_, .inr ⟨rfl, y, find_at hpre hno c56, rfl⟩, hS.sub (.cons _ (List.Sublist.refl _))⟩
            ·
              refine skipX ?_
              exact ⟨_, (.inl ⟨rfl, rfl, no_snoc hno c56⟩), (hS.sub (.cons _ (List.Sublist.refl _)))⟩
          ·
            clear hS
            intro D w L hcb hS
            obtain ⟨-, rfl, hno⟩ := hcb.resolve_right (fun h => by cases h.1)
            have hnk : knowO t log i tk = none := find_no hno
            replace hS : StX [] w0 w [obj D (.deferred (some [])), blk b11 [.pointer (some ⟨bb, 0, none⟩)] 100, blk bb [.int .i64 t.polders, .slice a1 t.chans.length cap1, .slice a2 t.towns.length cap2, .slice a3 t.floods.length cap3, .slice (some ⟨b1, 0, none⟩) t.towns.length t.towns.length, .slice (some ⟨bz, 0, none⟩) t.towns.length t.towns.length] 141, blk b1 ((arrS t).flatMap spanC) 44, blk bz ((arrN t).flatMap Bx.encI) 3, blk b10 [.int .i64 (wrongF t log)] 28, blk b9 [.int .i64 0] 3, blk b8 [.int .i64 0] 3, blk b7 [.int .i64 tk] 3, blk b6 [.int .i64 i] 3, blk b4 [.int .i64 t.polders, .slice a1 t.chans.length cap1, .slice a2 t.towns.length cap2, .slice a3 t.floods.length cap3] 26] := hS
            show Code.wpIn _ _ _ _ _ _ _
            refine seqX ?_
            refine regionX rfl ?_
            refine sst hS rfl rfl Tryz.sizeOf3 rfl rfl rfl rfl ?_; clear hS; intro w hS
            refine sst hS rfl rfl Tryz.sizeOf3 rfl rfl rfl rfl ?_; clear hS; intro w hS
            refine sst hS rfl rfl Tryz.sizeOf28 rfl rfl rfl rfl ?_; clear hS; intro w hS
            refine nil ?_
            show Code.wpIn _ _ _ _ _ _ _
            refine wpIn_ret ?_
            refine leafD hS (fun w hS => (resV3 rfl (rc1 rfl Tryz.isAgg3 (hS.at _) rfl) (rc1 rfl Tryz.isAgg3 (hS.at _) rfl) (rc1 rfl Tryz.isAgg28 (hS.at _) rfl))) (fun w hS => ?_)
            exact ⟨by rw [knows_none hE hnk]; try rfl, hS.ext⟩
          ·
            intro D w L cc pre hcb hS
            obtain ⟨hcc, y, hy, rfl⟩ := hcb.resolve_left (fun h => by cases h.1)
            obtain rfl := Option.some.inj hcc
            replace hS : StX [] w0 w [obj D (.deferred (some [])), blk b11 [.pointer (some ⟨bb, 0, none⟩)] 100, blk bb [.int .i64 t.polders, .slice a1 t.chans.length cap1, .slice a2 t.towns.length cap2, .slice a3 t.floods.length cap3, .slice (some ⟨b1, 0, none⟩) t.towns.length t.towns.length, .slice (some ⟨bz, 0, none⟩) t.towns.length t.towns.length] 141, blk b1 ((arrS t).flatMap spanC) 44, blk bz ((arrN t).flatMap Bx.encI) 3, blk b10 [.int .i64 0] 28, blk b9 [.int .i64 y.2.number] 3, blk b8 [.int .i64 y.2.stage] 3, blk b7 [.int .i64 tk] 3, blk b6 [.int .i64 i] 3, blk b4 [.int .i64 t.polders, .slice a1 t.chans.length cap1, .slice a2 t.towns.length cap2, .slice a3 t.floods.length cap3] 26] := hS
            refine wpIn_ret (blockR (thenR ?_))
            refine leafD hS (fun w hS => (resV3 rfl (rc1 rfl Tryz.isAgg3 (hS.at b8) rfl) (rc1 rfl Tryz.isAgg3 (hS.at b9) rfl) (rc1 rfl Tryz.isAgg28 (hS.at b10) rfl))) (fun w hS => ?_)
            exact ⟨by rw [knows_some hE hy], hS.ext⟩
    ·
      exact absurd c21 (by decide)
end Go.Proofs.YtmoilbakmlekbaaGreatDoor
/- part A19 -/
namespace Bx
open Go Go.RowKit
def hitM (t : Task) (i tk : Int) (x : Msg) : Bool := decide (x.town = i) && decide (x.sent + (chn t x.channel).delay ≤ tk)
theorem bk_find {log : List Msg} (p : Msg → Bool) : ∀ (k : Nat), k ≤ log.length → ((bk log k).find? (fun y => p y.2) = none ∧ ∀ (j : Nat), j < k → ∀ x, log[j]? = some x → p x = false) ∨
    ∃ (j : Nat) (x : Msg), (bk log k).find? (fun y => p y.2) = some ((j : Int), x) ∧ j < k ∧ log[j]? = some x ∧ p x = true ∧ ∀ (j' : Nat), j < j' → j' < k → ∀ x', log[j']? = some x' → p x' = false
  | 0, _ => .inl ⟨rfl, fun j hj => absurd hj (Nat.not_lt_zero j)⟩
  | k + 1, hk => by
    obtain ⟨x, hx, -⟩ := drop_of (l := log) (k := k) (by omega)
    rw [bk_hit hx, List.find?_cons]
    cases hp : p x with
    | true => exact .inr ⟨k, x, rfl, by omega, hx, hp, fun j' h1 h2 => by omega⟩
    | false =>
      rcases bk_find (log := log) p k (by omega) with ⟨h1, h2⟩ | ⟨j, y, h1, h2, h3, h4, h5⟩
      · refine .inl ⟨h1, fun j hj z hz => ?_⟩
        by_cases e : j = k
        · subst e; rw [hx] at hz; cases hz; exact hp
        · exact h2 j (by omega) z hz
      · refine .inr ⟨j, y, h1, by omega, h3, h4, fun j' k1 k2 z hz => ?_⟩
        by_cases e : j' = k
        · subst e; rw [hx] at hz; cases hz; exact hp
        · exact h5 j' k1 (by omega) z hz
def KN (t : Task) (log : List Msg) (i tk s n : Int) : Prop :=
  (n = 0 ∧ s = 0 ∧ ∀ (j : Nat) x, log[j]? = some x → hitM t i tk x = false) ∨ ∃ (j : Nat) (x : Msg), log[j]? = some x ∧ n = (j : Int) + 1 ∧ s = x.stage ∧ hitM t i tk x = true ∧ ∀ (j' : Nat) x', j < j' → log[j']? = some x' → hitM t i tk x' = false
theorem knows_kn {t : Task} {log : List Msg} {i tk : Int} (h : knowsE t log i tk = 0) (hn : ∀ (k : Nat) x, log[k]? = some x → x.number = 1 + k) : ∃ s n, knowsR t log i tk = (s, n, 0) ∧ KN t log i tk s n := by
  rcases bk_find (log := log) (hitM t i tk) log.length (Nat.le_refl _) with ⟨h1, h2⟩ | ⟨j, y, h1, h2, h3, h4, h5⟩
  · exact ⟨0, 0, knows_none h h1, .inl ⟨rfl, rfl, fun j x hx => h2 j (List.getElem?_eq_some_iff.1 hx).1 x hx⟩⟩
  · exact ⟨y.stage, y.number, knows_some h h1, .inr ⟨j, y, h3, by have := hn j y h3; omega, rfl, h4, fun j' x' hj hx => h5 j' hj (List.getElem?_eq_some_iff.1 hx).1 x' hx⟩⟩
theorem hitM_mono {t : Task} {i a b : Int} {x : Msg} (h : a ≤ b) (hx : hitM t i a x = true) : hitM t i b x = true := by
  unfold hitM at hx ⊢
  rw [Bool.and_eq_true, decide_eq_true_eq, decide_eq_true_eq] at hx ⊢
  omega
theorem kn_two {t : Task} {log : List Msg} {i lo hi a m b n : Int} (h : lo ≤ hi) (h1 : KN t log i lo a m) (h2 : KN t log i hi b n) : 0 ≤ m ∧ m ≤ n ∧ n ≤ log.length ∧ (m = n → a = b) ∧ (n = 0 → b = 0) ∧
    (n ≠ 0 → ∃ y, log[(n - 1).toNat]? = some y ∧ y.stage = b ∧ y.town = i ∧ y.sent + (chn t y.channel).delay ≤ hi) ∧ ∀ (k : Nat) x, n ≤ k → log[k]? = some x → hitM t i hi x = false := by
  rcases h2 with ⟨rfl, rfl, h2⟩ | ⟨j2, x2, hx2, rfl, rfl, hh2, hl2⟩
  · have hm : m = 0 ∧ a = 0 := by
      rcases h1 with ⟨rfl, rfl, -⟩ | ⟨j, x, hx, -, -, hh, -⟩
      · exact ⟨rfl, rfl⟩
      · exact absurd ((hitM_mono h hh).symm.trans (h2 j x hx)) (by decide)
    obtain ⟨rfl, rfl⟩ := hm
    exact ⟨Int.le_refl _, Int.le_refl _, by omega, fun _ => rfl, fun _ => rfl, fun hn => absurd rfl hn, fun k x _ hx => h2 k x hx⟩
  · have hj2 := (List.getElem?_eq_some_iff.1 hx2).1
    have hy : x2.town = i ∧ x2.sent + (chn t x2.channel).delay ≤ hi := by
      unfold hitM at hh2
      rwa [Bool.and_eq_true, decide_eq_true_eq, decide_eq_true_eq] at hh2
    refine ⟨?_, ?_, by omega, ?_, fun hn => by omega, fun _ => ⟨x2, by rw [show ((j2 : Int) + 1 - 1).toNat = j2 by omega]; exact hx2, rfl, hy.1, hy.2⟩, fun k x hk hx => hl2 k x (by omega) hx⟩
    · rcases h1 with ⟨rfl, -, -⟩ | ⟨j, x, -, rfl, -⟩ <;> omega
    · rcases h1 with ⟨rfl, -, -⟩ | ⟨j, x, hx, rfl, -, hh, -⟩
      · omega
      · by_cases hj : j ≤ j2
        · omega
        · exact absurd ((hitM_mono h hh).symm.trans (hl2 j x (by omega) hx)) (by decide)
    · intro he
      rcases h1 with ⟨rfl, -, -⟩ | ⟨j, x, hx, rfl, rfl, hh, -⟩
      · omega
      · obtain rfl : j = j2 := by omega
        rw [hx] at hx2; cases hx2; rfl
theorem knowsE_wrong {t : Task} {log : List Msg} {i tk : Int} (h : knowsE t log i tk = 0) : TaskOk t ∧ wrongF t log = 0 := by
  unfold knowsE at h
  split at h
  next h1 => exact absurd h h1
  next h1 =>
    split at h
    next h2 => exact absurd h h2
    next h2 => exact ⟨(ofE_ok (Decidable.not_not.1 h1)).1, Decidable.not_not.1 h2⟩
theorem knowsR_err {t : Task} {log : List Msg} {i tk s n e : Int} (h : knowsR t log i tk = (s, n, e)) (he : e = 0) : knowsE t log i tk = 0 := by
  unfold knowsR at h
  split at h
  next h1 => cases h; exact absurd he h1
  next h1 => omega
theorem orders_all (t : Task) (log : List Msg) (i lo hi : Int) (hlh : lo ≤ hi) : ∃ a m e b n f, knowsR t log i lo = (a, m, e) ∧ knowsR t log i hi = (b, n, f) ∧ (e = 0 → f = 0 → TaskOk t ∧ (∀ x ∈ log, MsgOk t x) ∧ 0 ≤ m ∧ m ≤ n ∧ n ≤ log.length ∧ (m = n → a = b) ∧ (n = 0 → b = 0) ∧
    (n ≠ 0 → ∃ y, log[(n - 1).toNat]? = some y ∧ y.stage = b ∧ y.town = i ∧ y.sent + (chn t y.channel).delay ≤ hi) ∧ ∀ (k : Nat) x, n ≤ k → log[k]? = some x → hitM t i hi x = false) := by
  obtain ⟨a, m, e, h1⟩ : ∃ a m e, knowsR t log i lo = (a, m, e) := ⟨_, _, _, rfl⟩
  obtain ⟨b, n, f, h2⟩ : ∃ b n f, knowsR t log i hi = (b, n, f) := ⟨_, _, _, rfl⟩
  refine ⟨_, _, _, _, _, _, h1, h2, fun he hf => ?_⟩
  have he' := knowsR_err h1 he
  have hf' := knowsR_err h2 hf
  obtain ⟨hok, hw⟩ := knowsE_wrong he'
  obtain ⟨-, hmo, hnum, -⟩ := wrongF_ok hw
  obtain ⟨s1, n1, e1, k1⟩ := knows_kn he' hnum
  obtain ⟨s2, n2, e2, k2⟩ := knows_kn hf' hnum
  rw [h1] at e1
  rw [h2] at e2
  cases e1
  cases e2
  exact ⟨hok, hmo, kn_two hlh k1 k2⟩
def RThreeI (_ : World) (cs : List Value) (p : Int × Int × Int) : Prop := cs = [.int .i64 p.1, .int .i64 p.2.1, .int .i64 p.2.2] ∧ I64 p.1 ∧ I64 p.2.1 ∧ I64 p.2.2
end Bx
/- part Aw22 -/
namespace Go.Proofs.YtmoilbakmlekbaaGreatDoor
open Go Bx
set_option maxHeartbeats 2000000 in
/-- barrage/barragelaw11.AlarmOrders -/
theorem w_AlarmOrders {t : Task} {cs : List Value} {log : List Msg} {lv : Value} {p : Int × Int × Int} {qs : List Value} {w0 : World} (hg : Glb w0) (h : RTask w0 cs t) (hlg : Sl w0 5 RMsg lv log) (h2 : RThreeI w0 qs p) : CV Tryz.prog 11 #[.agg cs.toArray, lv, .agg qs.toArray] w0 (.bool true) := by
  obtain ⟨hv, nv, fv, rfl, hpol, hsh, hsn, hsf⟩ := id h
  obtain ⟨a1, cap1, rfl, hcap1, hmx1, hel1⟩ := id hsh
  obtain ⟨a2, cap2, rfl, hcap2, hmx2, hel2⟩ := id hsn
  obtain ⟨a3, cap3, rfl, hcap3, hmx3, hel3⟩ := id hsf
  obtain ⟨al, cl, rfl, hlcap, hlmx, hlel⟩ := id hlg
  obtain ⟨rfl, hp1, hp2, hp3⟩ := id h2
  obtain ⟨a, m, e, b, nn, ff, hs1, hs2, hall⟩ := orders_all t log p.1 (min p.2.1 p.2.2) (max p.2.1 p.2.2) (by omega)
  refine enter Tryz.func11 rfl Tryz.ntmps11 rfl ?_
  have hS := St.start w0
  refine seq ?_
  refine region ?_
  refine sbox hS rfl rfl ?_; clear hS; intro b3 w hS
  refine sbox hS rfl rfl ?_; clear hS; intro b5 w hS
  refine sv (yAsg rfl) ?_
  refine nil ?_
  show Code.wp _ _ _ _ _
  refine seq ?_
  refine region ?_
  refine sv (yLdBA rfl Tryz.isAgg26 Tryz.sizeOf26 (hS.at _) rfl rfl) ?_
  refine sv (yMove rfl) ?_
  refine sv (yIxA rfl rfl Tryz.runUnderlying72 Tryz.sizeOf3 (by omega) (by omega)) ?_
  refine sv (yLdB rfl Tryz.isAgg3 (hS.at _) rfl) ?_
  refine sv (yIxA rfl rfl Tryz.runUnderlying72 Tryz.sizeOf3 (by omega) (by omega)) ?_
  refine sv (yLdB rfl Tryz.isAgg3 (hS.at _) rfl) ?_
  refine sv (yIxA rfl rfl Tryz.runUnderlying72 Tryz.sizeOf3 (by omega) (by omega)) ?_
  refine sv (yLdB rfl Tryz.isAgg3 (hS.at _) rfl) ?_
  refine sv (yMin rfl rfl) ?_
  refine scall Tryz.call31 (.cons rfl (.cons rfl (.cons rfl (.cons rfl .nil)))) (c_Knows (hg.ext hS.ext) (h.ext hS.ext) (hlg.ext RMsg.stays hS.ext)) ?_
  rw [hs1]
  rintro _ w ⟨rfl, hE⟩; replace hS := hS.step hE; clear hE
  refine sv (yMove rfl) ?_
  refine sv (yExt rfl rfl) ?_
  refine sv (yExt rfl rfl) ?_
  refine sv (yExt rfl rfl) ?_
  refine sv (yAsg rfl) ?_
  refine sv (yAsg rfl) ?_
  refine sv (yAsg rfl) ?_
  refine nil ?_
  show Code.wp _ _ _ _ _
  refine seqJ (n := 163) (fun f w => f 1 = .slice al log.length cl ∧ f 3 = .pointer (some ⟨b3, 0, none⟩) ∧ f 5 = .pointer (some ⟨b5, 0, none⟩) ∧ f 7 = .int .i64 a ∧ f 8 = .int .i64 m ∧ f 9 = .int .i64 e ∧ f 10 = .int .i64 b ∧ f 11 = .int .i64 nn ∧ f 12 = .int .i64 ff ∧ StX [] w0 w [blk b5 [.int .i64 p.1, .int .i64 p.2.1, .int .i64 p.2.2] 72, blk b3 [.int .i64 t.polders, .slice a1 t.chans.length cap1, .slice a2 t.towns.length cap2, .slice a3 t.floods.length cap3] 26] ∧ True) ?_ ?_
  ·
    refine region ?_
    refine sv (yLdBA rfl Tryz.isAgg26 Tryz.sizeOf26 (hS.at _) rfl rfl) ?_
    refine sv (yMove rfl) ?_
    refine sv (yIxA rfl rfl Tryz.runUnderlying72 Tryz.sizeOf3 (by omega) (by omega)) ?_
    refine sv (yLdB rfl Tryz.isAgg3 (hS.at _) rfl) ?_
    refine sv (yIxA rfl rfl Tryz.runUnderlying72 Tryz.sizeOf3 (by omega) (by omega)) ?_
    refine sv (yLdB rfl Tryz.isAgg3 (hS.at _) rfl) ?_
    refine sv (yIxA rfl rfl Tryz.runUnderlying72 Tryz.sizeOf3 (by omega) (by omega)) ?_
    refine sv (yLdB rfl Tryz.isAgg3 (hS.at _) rfl) ?_
    refine sv (yMax rfl rfl) ?_
    refine scall Tryz.call31 (.cons rfl (.cons rfl (.cons rfl (.cons rfl .nil)))) (c_Knows (hg.ext hS.ext) (h.ext hS.ext) (hlg.ext RMsg.stays hS.ext)) ?_
    rw [hs2]
    rintro _ w ⟨rfl, hE⟩; replace hS := hS.step hE; clear hE
    refine sv (yMove rfl) ?_
    refine sv (yExt rfl rfl) ?_
    refine sv (yExt rfl rfl) ?_
    refine sv (yExt rfl rfl) ?_
    refine sv (yAsg rfl) ?_
    refine sv (yAsg rfl) ?_
    refine sv (yAsg rfl) ?_
    refine nil ?_
    exact ⟨_, rfl, rfl, rfl, rfl, rfl, rfl, rfl, rfl, rfl, rfl, hS, trivial⟩
  ·
    clear hS; rintro f w ⟨h1, h3, h5, h7, h8, h9, h10, h11, h12, hS, -⟩
    refine seq ?_
    refine seq ?_
    refine region ?_
    refine sv (yMove h9) ?_
    refine sv (yNeq rfl rfl) ?_
    refine sv (yMove rfl) ?_
    refine sg rfl rfl rfl (fun g => (yMove h12)) (fun v47 g47 => ?_)
    refine sg rfl rfl rfl (fun g => (yNeq (g47.1 g) rfl)) (fun v48 g48 => ?_)
    refine sv (yOr rfl rfl (fun hB => (g48.1 hB))) ?_
    refine nil ?_
    show Code.wp _ _ _ _ _
    refine cond rfl (fun c49 => ?_) (fun c49 => ?_)
    ·
      simp only [Bool.and_eq_true, Bool.or_eq_true, Bool.and_eq_false_iff, Bool.or_eq_false_iff, decide_eq_true_eq, decide_eq_false_iff_not, Bool.not_eq_true, Bool.not_eq_false, Bool.not_not, Bool.not_eq_eq_eq_not, Bool.not_true, Bool.not_false, Bool.false_eq_true, Bool.true_eq_false, ne_eq, Decidable.not_not, not_false_eq_true, not_true_eq_false] at c49
      refine seq ?_
      refine region ?_
      refine scall Tryz.call20 .nil (c_Awake (hg.ext hS.ext)) ?_
      rintro _ w ⟨rfl, hE⟩; replace hS := hS.step hE; clear hE
      refine sv (yAsg rfl) ?_
      refine nil ?_
      show Code.wp _ _ _ _ _
      refine wp_ret (thenR ?_)
      exact retV (res1 rfl rfl) hS.ext
    ·
      simp only [Bool.and_eq_true, Bool.or_eq_true, Bool.and_eq_false_iff, Bool.or_eq_false_iff, decide_eq_true_eq, decide_eq_false_iff_not, Bool.not_eq_true, Bool.not_eq_false, Bool.not_not, Bool.not_eq_eq_eq_not, Bool.not_true, Bool.not_false, Bool.false_eq_true, Bool.true_eq_false, ne_eq, Decidable.not_not, not_false_eq_true, not_true_eq_false] at c49
      obtain ⟨hok, hmo, h0m, hmn, hnl, hab, hb0, hyy, hno⟩ := hall (by omega) (by omega)
      refine skip ?_
      show Code.wp _ _ _ _ _
      refine seq ?_
      refine seq ?_
      refine region ?_
      refine sv (yMove h8) ?_
      refine sv (yMove h11) ?_
      refine sv (yGtr rfl rfl) ?_
      refine sv (yMove rfl) ?_
      refine sg rfl rfl rfl (fun g => (yMove h11)) (fun v55 g55 => ?_)
      refine sg rfl rfl rfl (fun g => (yMove h1)) (fun v56 g56 => ?_)
      refine sg rfl rfl rfl (fun g => (yLen (g56.1 g) Tryz.underlying62)) (fun v57 g57 => ?_)
      refine sg rfl rfl rfl (fun g => (yGtr (g55.1 g) (g57.1 g))) (fun v58 g58 => ?_)
      refine sv (yOr rfl rfl (fun hB => (g58.1 hB))) ?_
      refine sv (yMove rfl) ?_
      refine sg rfl rfl rfl (fun g => (yMove h8)) (fun v61 g61 => ?_)
      refine sg rfl rfl rfl (fun g => (yLss (g61.1 g) rfl)) (fun v62 g62 => ?_)
      refine sv (yOr rfl rfl (fun hB => (g62.1 hB))) ?_
      refine sv (yMove rfl) ?_
      refine sg rfl rfl rfl (fun g => (yMove h8)) (fun v65 g65 => ?_)
      refine sg rfl rfl rfl (fun g => (yMove h11)) (fun v66 g66 => ?_)
      refine sg rfl rfl rfl (fun g => (yEql (g65.1 g) (g66.1 g))) (fun v67 g67 => ?_)
      refine sg rfl rfl rfl (fun g => (yMove (g67.1 g))) (fun v68 g68 => ?_)
      refine sgg rfl rfl g68 (fun g => (yMove h7)) (fun v69 g69 => ?_)
      refine sgg rfl rfl g68 (fun g => (yMove h10)) (fun v70 g70 => ?_)
      refine sgg rfl rfl g68 (fun g => (yNeq (g69.1 g) (g70.1 g))) (fun v71 g71 => ?_)
      refine sg rfl rfl rfl (fun g => (yAnd (g68.1 g) (fun hB => (g71.1 ⟨g, hB⟩)) rfl)) (fun v72 g72 => ?_)
      refine sv (yOr rfl rfl (fun hB => (g72.1 hB))) ?_
      refine nil ?_
      show Code.wp _ _ _ _ _
      refine cond rfl (fun c73 => ?_) (fun c73 => ?_)
      ·
        simp only [Bool.and_eq_true, Bool.or_eq_true, Bool.and_eq_false_iff, Bool.or_eq_false_iff, decide_eq_true_eq, decide_eq_false_iff_not, Bool.not_eq_true, Bool.not_eq_false, Bool.not_not, Bool.not_eq_eq_eq_not, Bool.not_true, Bool.not_false, Bool.false_eq_true, Bool.true_eq_false, ne_eq, Decidable.not_not, not_false_eq_true, not_true_eq_false] at c73
        exfalso; rcases c73 with c | c
        · omega
        · have := hab c.1; omega
      ·
        simp only [Bool.and_eq_true, Bool.or_eq_true, Bool.and_eq_false_iff, Bool.or_eq_false_iff, decide_eq_true_eq, decide_eq_false_iff_not, Bool.not_eq_true, Bool.not_eq_false, Bool.not_not, Bool.not_eq_eq_eq_not, Bool.not_true, Bool.not_false, Bool.false_eq_true, Bool.true_eq_false, ne_eq, Decidable.not_not, not_false_eq_true, not_true_eq_false] at c73
        refine skip ?_
        show Code.wp _ _ _ _ _
        refine seq ?_
        refine seq ?_
        refine region ?_
        refine sv (yMove h11) ?_
        refine sv (yEql rfl rfl) ?_
        refine nil ?_
        show Code.wp _ _ _ _ _
        refine cond rfl (fun c75 => ?_) (fun c75 => ?_)
        ·
          simp only [Bool.and_eq_true, Bool.or_eq_true, Bool.and_eq_false_iff, Bool.or_eq_false_iff, decide_eq_true_eq, decide_eq_false_iff_not, Bool.not_eq_true, Bool.not_eq_false, Bool.not_not, Bool.not_eq_eq_eq_not, Bool.not_true, Bool.not_false, Bool.false_eq_true, Bool.true_eq_false, ne_eq, Decidable.not_not, not_false_eq_true, not_true_eq_false] at c75
          refine seq ?_
          refine region ?_
          refine sv (yMove h10) ?_
          refine sv (yEql rfl rfl) ?_
          refine sv (yMove rfl) ?_
          refine sgc hS rfl rfl rfl Tryz.call20 (fun g => .nil) (fun g => (c_Awake (hg.ext hS.ext))) ?_; clear hS; intro v79 w hS g79
          refine sv (yAnd rfl (fun hB => (g79.1 hB)) rfl) ?_
          refine sv (yAsg rfl) ?_
          refine nil ?_
          show Code.wp _ _ _ _ _
          refine wp_ret (thenR ?_)
          exact retV (res1 rfl (eqB (by simp [hb0 c75]))) hS.ext
        ·
          simp only [Bool.and_eq_true, Bool.or_eq_true, Bool.and_eq_false_iff, Bool.or_eq_false_iff, decide_eq_true_eq, decide_eq_false_iff_not, Bool.not_eq_true, Bool.not_eq_false, Bool.not_not, Bool.not_eq_eq_eq_not, Bool.not_true, Bool.not_false, Bool.false_eq_true, Bool.true_eq_false, ne_eq, Decidable.not_not, not_false_eq_true, not_true_eq_false] at c75
          obtain ⟨q, hq, hqs, hqt, hqh⟩ := hyy c75
          obtain ⟨bz, oz, csz, haz, hlz, hcsz, hRz, -⟩ := sl_at hlg hq
          obtain ⟨rfl, -⟩ := hRz
          have hmz := hmo q (List.mem_of_getElem? hq)
          have hcz := hmz.chan
          have hsz := hmz.sent
          obtain ⟨bc, oc, csc, hac, hlc, hcsc, hRc, -⟩ := sl_at hsh (chn_i (t := t) hcz)
          obtain ⟨rfl, -⟩ := hRc
          have hco := chan_ok hok hcz
          refine skip ?_
          show Code.wp _ _ _ _ _
          refine seq ?_
          refine region ?_
          refine sv (yMove h1) ?_
          refine sv (yMove h11) ?_
          refine sv (ySub rfl rfl ⟨by omega, by omega⟩) ?_
          refine sv (yIxa rfl haz rfl Tryz.runUnderlying62 Tryz.sizeOf70 (by omega) (by omega)) ?_
          refine sv (yLdA rfl Tryz.isAgg70 Tryz.sizeOf70 (hcsz.ext hS.ext) rfl) ?_
          refine salloc hS Tryz.zeroValue70 rfl ?_; clear hS; intro b13 w hS
          refine sst hS rfl rfl Tryz.sizeOf70 rfl rfl rfl rfl ?_; clear hS; intro w hS
          refine nil ?_
          show Code.wp _ _ _ _ _
          refine seq ?_
          refine seq ?_
          refine region_draw mixed (by kernel_rfl) hS ?_
          refine qv (fun w hS => (fa70_2 rfl)) ?_
          refine qv (fun w hS => (yLdB rfl Tryz.isAgg3 (hS.at _) rfl)) ?_
          refine qv (fun w hS => (yMove h10)) ?_
          refine qv (fun w hS => (yNeq rfl rfl)) ?_
          refine qv (fun w hS => (yMove rfl)) ?_
          refine qg rfl rfl rfl (fun g w hS => (fa70_1 rfl)) (fun v91 g91 => ?_)
          refine qg rfl rfl rfl (fun g w hS => (yLdB (g91.1 g) Tryz.isAgg3 (hS.at _) rfl)) (fun v92 g92 => ?_)
          refine qg rfl rfl rfl (fun g w hS => (yIxA h5 rfl Tryz.runUnderlying72 Tryz.sizeOf3 (by omega) (by omega))) (fun v93 g93 => ?_)
          refine qg rfl rfl rfl (fun g w hS => (yLdB (g93.1 g) Tryz.isAgg3 (hS.at _) rfl)) (fun v94 g94 => ?_)
          refine qg rfl rfl rfl (fun g w hS => (yNeq (g92.1 g) (g94.1 g))) (fun v95 g95 => ?_)
          refine qv (fun w hS => (yOr rfl rfl (fun hB => (g95.1 hB)))) ?_
          refine qv (fun w hS => (yMove rfl)) ?_
          refine qg rfl rfl rfl (fun g w hS => (fa70_3 rfl)) (fun v98 g98 => ?_)
          refine qg rfl rfl rfl (fun g w hS => (yLdB (g98.1 g) Tryz.isAgg3 (hS.at _) rfl)) (fun v99 g99 => ?_)
          refine qg rfl rfl rfl (fun g w hS => (yLss (g99.1 g) rfl)) (fun v100 g100 => ?_)
          refine qv (fun w hS => (yOr rfl rfl (fun hB => (g100.1 hB)))) ?_
          refine qv (fun w hS => (yMove rfl)) ?_
          refine qg rfl rfl rfl (fun g w hS => (fa70_3 rfl)) (fun v103 g103 => ?_)
          refine qg rfl rfl rfl (fun g w hS => (yLdB (g103.1 g) Tryz.isAgg3 (hS.at _) rfl)) (fun v104 g104 => ?_)
          refine qg rfl rfl rfl (fun g w hS => (fa26_1 h3)) (fun v105 g105 => ?_)
          refine qg rfl rfl rfl (fun g w hS => (yLdB (g105.1 g) Tryz.isAgg22 (hS.at _) rfl)) (fun v106 g106 => ?_)
          refine qg rfl rfl rfl (fun g w hS => (yLen (g106.1 g) Tryz.underlying22)) (fun v107 g107 => ?_)
          refine qg rfl rfl rfl (fun g w hS => (yGeq (g104.1 g) (g107.1 g))) (fun v108 g108 => ?_)
          refine qv (fun w hS => (yOr rfl rfl (fun hB => (g108.1 hB)))) ?_
          refine qv (fun w hS => (yMove rfl)) ?_
          refine qg rfl rfl rfl (fun g w hS => (fa70_4 rfl)) (fun v111 g111 => ?_)
          refine qg rfl rfl rfl (fun g w hS => (yLdB (g111.1 g) Tryz.isAgg3 (hS.at _) rfl)) (fun v112 g112 => ?_)
          refine qg rfl rfl rfl (fun g w hS => (fa26_1 h3)) (fun v113 g113 => ?_)
          refine qg rfl rfl rfl (fun g w hS => (yLdB (g113.1 g) Tryz.isAgg22 (hS.at _) rfl)) (fun v114 g114 => ?_)
          refine qg rfl rfl rfl (fun g w hS => (fa70_3 rfl)) (fun v115 g115 => ?_)
          refine qg rfl rfl rfl (fun g w hS => (yLdB (g115.1 g) Tryz.isAgg3 (hS.at _) rfl)) (fun v116 g116 => ?_)
          refine qg rfl rfl rfl (fun g w hS => (yIxa (g114.1 g) hac (g116.1 g) Tryz.runUnderlying22 Tryz.sizeOf41 (by omega) (by omega))) (fun v117 g117 => ?_)
          refine qg rfl rfl rfl (fun g w hS => (fa41_1 (g117.1 g))) (fun v118 g118 => ?_)
          refine qg rfl rfl rfl (fun g w hS => (yLd (g118.1 g) Tryz.isAgg3 ((hcsc.ext hS.ext).at (j := 1) rfl))) (fun v119 g119 => ?_)
          refine qg rfl rfl rfl (fun g w hS => (yAdd (g112.1 g) (g119.1 g) ⟨by omega, by omega⟩)) (fun v120 g120 => ?_)
          refine qg rfl rfl rfl (fun g w hS => (yIxA h5 rfl Tryz.runUnderlying72 Tryz.sizeOf3 (by omega) (by omega))) (fun v121 g121 => ?_)
          refine qg rfl rfl rfl (fun g w hS => (yLdB (g121.1 g) Tryz.isAgg3 (hS.at _) rfl)) (fun v122 g122 => ?_)
          refine qg rfl rfl rfl (fun g w hS => (yIxA h5 rfl Tryz.runUnderlying72 Tryz.sizeOf3 (by omega) (by omega))) (fun v123 g123 => ?_)
          refine qg rfl rfl rfl (fun g w hS => (yLdB (g123.1 g) Tryz.isAgg3 (hS.at _) rfl)) (fun v124 g124 => ?_)
          refine qg rfl rfl rfl (fun g w hS => (yMax (g122.1 g) (g124.1 g))) (fun v125 g125 => ?_)
          refine qg rfl rfl rfl (fun g w hS => (yGtr (g120.1 g) (g125.1 g))) (fun v126 g126 => ?_)
          refine qv (fun w hS => (yOr rfl rfl (fun hB => (g126.1 hB)))) ?_
          clear hS; refine qnil (fun w hS => ?_)
          show Code.wp _ _ _ _ _
          refine cond rfl (fun c127 => ?_) (fun c127 => ?_)
          ·
            simp only [Bool.and_eq_true, Bool.or_eq_true, Bool.and_eq_false_iff, Bool.or_eq_false_iff, decide_eq_true_eq, decide_eq_false_iff_not, Bool.not_eq_true, Bool.not_eq_false, Bool.not_not, Bool.not_eq_eq_eq_not, Bool.not_true, Bool.not_false, Bool.false_eq_true, Bool.true_eq_false, ne_eq, Decidable.not_not, not_false_eq_true, not_true_eq_false] at c127
            exfalso; omega
          ·
            simp only [Bool.and_eq_true, Bool.or_eq_true, Bool.and_eq_false_iff, Bool.or_eq_false_iff, decide_eq_true_eq, decide_eq_false_iff_not, Bool.not_eq_true, Bool.not_eq_false, Bool.not_not, Bool.not_eq_eq_eq_not, Bool.not_true, Bool.not_false, Bool.false_eq_true, Bool.true_eq_false, ne_eq, Decidable.not_not, not_false_eq_true, not_true_eq_false] at c127
            refine skip ?_
            show Code.wp _ _ _ _ _
            refine seq ?_
            refine seq ?_
            refine region ?_
            refine sv (yMove h11) ?_
            refine sv (yAsg rfl) ?_
            refine nil ?_
            show Code.wp _ _ _ _ _
            refine block ?_
            refine loop (fun f w zz => ∃ (k : Nat), f 1 = .slice al log.length cl ∧ f 3 = .pointer (some ⟨b3, 0, none⟩) ∧ f 5 = .pointer (some ⟨b5, 0, none⟩) ∧ f 14 = .int .i64 (k : Int) ∧ StX [] w0 w [blk b5 [.int .i64 p.1, .int .i64 p.2.1, .int .i64 p.2.2] 72, blk b3 [.int .i64 t.polders, .slice a1 t.chans.length cap1, .slice a2 t.towns.length cap2, .slice a3 t.floods.length cap3] 26] ∧ (nn ≤ (k : Int)) ∧ (k ≤ log.length) ∧ zz = log.length - k) _ ⟨_, rfl, nn.toNat, h1, h3, h5, (rfl.trans (congrArg (Value.int .i64) (by omega))), (hS.sub (.cons _ (List.Sublist.refl _))), (by omega), (by omega), rfl⟩ ?_
            clear hS
            rintro f w _ ⟨k, h1, h3, h5, h14, hS, hk, hkl, rfl⟩
            refine seq ?_
            refine seq ?_
            refine region ?_
            refine sv (yMove h14) ?_
            refine sv (yMove h1) ?_
            refine sv (yLen rfl Tryz.underlying62) ?_
            refine sv (yLss rfl rfl) ?_
            refine nil ?_
            show Code.wp _ _ _ _ _
            refine cond rfl (fun c132 => ?_) (fun c132 => ?_)
            ·
              simp only [Bool.and_eq_true, Bool.or_eq_true, Bool.and_eq_false_iff, Bool.or_eq_false_iff, decide_eq_true_eq, decide_eq_false_iff_not, Bool.not_eq_true, Bool.not_eq_false, Bool.not_not, Bool.not_eq_eq_eq_not, Bool.not_true, Bool.not_false, Bool.false_eq_true, Bool.true_eq_false, ne_eq, Decidable.not_not, not_false_eq_true, not_true_eq_false] at c132
              obtain ⟨x, hx, -⟩ := drop_of (l := log) (k := k) (by omega)
              obtain ⟨bv, ov, csv, hav, hlv, hcsv, hRv, -⟩ := sl_at hlg hx
              obtain ⟨rfl, -⟩ := hRv
              have hmv := hmo x (List.mem_of_getElem? hx)
              have hcv := hmv.chan
              have hsv := hmv.sent
              obtain ⟨bc, oc, csc, hac, hlc, hcsc, hRc, -⟩ := sl_at hsh (chn_i (t := t) hcv)
              obtain ⟨rfl, -⟩ := hRc
              have hco := chan_ok hok hcv
              refine skip ?_
              show Code.wp _ _ _ _ _
              refine seq ?_
              refine block ?_
              refine seq ?_
              refine region ?_
              refine sv (yMove h1) ?_
              refine sv (yMove h14) ?_
              refine sv (yIxa rfl hav rfl Tryz.runUnderlying62 Tryz.sizeOf70 (by omega) (by omega)) ?_
              refine sv (yLdA rfl Tryz.isAgg70 Tryz.sizeOf70 (hcsv.ext hS.ext) rfl) ?_
              refine salloc hS Tryz.zeroValue70 rfl ?_; clear hS; intro b15 w hS
              refine sst hS rfl rfl Tryz.sizeOf70 rfl rfl rfl rfl ?_; clear hS; intro w hS
              refine nil ?_
              show Code.wp _ _ _ _ _
              refine seq ?_
              refine region_draw mixed (by kernel_rfl) hS ?_
              refine qv (fun w hS => (fa70_1 rfl)) ?_
              refine qv (fun w hS => (yLdB rfl Tryz.isAgg3 (hS.at _) rfl)) ?_
              refine qv (fun w hS => (yIxA h5 rfl Tryz.runUnderlying72 Tryz.sizeOf3 (by omega) (by omega))) ?_
              refine qv (fun w hS => (yLdB rfl Tryz.isAgg3 (hS.at _) rfl)) ?_
              refine qv (fun w hS => (yEql rfl rfl)) ?_
              refine qv (fun w hS => (yMove rfl)) ?_
              refine qg rfl rfl rfl (fun g w hS => (fa70_4 rfl)) (fun v145 g145 => ?_)
              refine qg rfl rfl rfl (fun g w hS => (yLdB (g145.1 g) Tryz.isAgg3 (hS.at _) rfl)) (fun v146 g146 => ?_)
              refine qg rfl rfl rfl (fun g w hS => (fa26_1 h3)) (fun v147 g147 => ?_)
              refine qg rfl rfl rfl (fun g w hS => (yLdB (g147.1 g) Tryz.isAgg22 (hS.at _) rfl)) (fun v148 g148 => ?_)
              refine qg rfl rfl rfl (fun g w hS => (fa70_3 rfl)) (fun v149 g149 => ?_)
              refine qg rfl rfl rfl (fun g w hS => (yLdB (g149.1 g) Tryz.isAgg3 (hS.at _) rfl)) (fun v150 g150 => ?_)
              refine qg rfl rfl rfl (fun g w hS => (yIxa (g148.1 g) hac (g150.1 g) Tryz.runUnderlying22 Tryz.sizeOf41 (by omega) (by omega))) (fun v151 g151 => ?_)
              refine qg rfl rfl rfl (fun g w hS => (fa41_1 (g151.1 g))) (fun v152 g152 => ?_)
              refine qg rfl rfl rfl (fun g w hS => (yLd (g152.1 g) Tryz.isAgg3 ((hcsc.ext hS.ext).at (j := 1) rfl))) (fun v153 g153 => ?_)
              refine qg rfl rfl rfl (fun g w hS => (yAdd (g146.1 g) (g153.1 g) ⟨by omega, by omega⟩)) (fun v154 g154 => ?_)
              refine qg rfl rfl rfl (fun g w hS => (yIxA h5 rfl Tryz.runUnderlying72 Tryz.sizeOf3 (by omega) (by omega))) (fun v155 g155 => ?_)
              refine qg rfl rfl rfl (fun g w hS => (yLdB (g155.1 g) Tryz.isAgg3 (hS.at _) rfl)) (fun v156 g156 => ?_)
              refine qg rfl rfl rfl (fun g w hS => (yIxA h5 rfl Tryz.runUnderlying72 Tryz.sizeOf3 (by omega) (by omega))) (fun v157 g157 => ?_)
              refine qg rfl rfl rfl (fun g w hS => (yLdB (g157.1 g) Tryz.isAgg3 (hS.at _) rfl)) (fun v158 g158 => ?_)
              refine qg rfl rfl rfl (fun g w hS => (yMax (g156.1 g) (g158.1 g))) (fun v159 g159 => ?_)
              refine qg rfl rfl rfl (fun g w hS => (yLeq (g154.1 g) (g159.1 g))) (fun v160 g160 => ?_)
              refine qv (fun w hS => (yAnd rfl (fun hB => (g160.1 hB)) rfl)) ?_
              clear hS; refine qnil (fun w hS => ?_)
              show Code.wp _ _ _ _ _
              refine cond rfl (fun c161 => ?_) (fun c161 => ?_)
              ·
                exact absurd ((hno k x hk hx).symm.trans c161) (by decide)
              ·
                refine skip ?_
                show Code.wp _ _ _ _ _
                refine region ?_
                refine sv (yMove h14) ?_
                refine sv (yAdd rfl rfl ⟨by omega, by omega⟩) ?_
                refine sv (yAsg rfl) ?_
                refine nil ?_
                exact ⟨_, _, rfl, ⟨k + 1, h1, h3, h5, rfl, (hS.sub (.cons _ (List.Sublist.refl _))), (by omega), (by omega), rfl⟩, by omega⟩
            ·
              simp only [Bool.and_eq_true, Bool.or_eq_true, Bool.and_eq_false_iff, Bool.or_eq_false_iff, decide_eq_true_eq, decide_eq_false_iff_not, Bool.not_eq_true, Bool.not_eq_false, Bool.not_not, Bool.not_eq_eq_eq_not, Bool.not_true, Bool.not_false, Bool.false_eq_true, Bool.true_eq_false, ne_eq, Decidable.not_not, not_false_eq_true, not_true_eq_false] at c132
              refine exit ?_
              show Code.wp _ _ _ _ _
              refine seq ?_
              refine region ?_
              refine scall Tryz.call20 .nil (c_Awake (hg.ext hS.ext)) ?_
              rintro _ w ⟨rfl, hE⟩; replace hS := hS.step hE; clear hE
              refine sv (yAsg rfl) ?_
              refine nil ?_
              show Code.wp _ _ _ _ _
              refine wp_ret ?_
              exact retV (res1 rfl rfl) hS.ext
end Go.Proofs.YtmoilbakmlekbaaGreatDoor
/- part A20 -/
namespace Bx
open Go Go.RowKit
theorem chL_len (t : Task) : (chL t).length = t.chans.length := by simp [chL]
theorem chL_get {t : Task} {c : Nat} (h : c < t.chans.length) : (chL t)[c]? = some (c : Int) := by simp [chL, h]
theorem cnt_snoc (P : Pl) (c : Int) (A : List Int) (i : Int) : P.cnt c (A ++ [i]) = if c ∈ P.chans i then max (P.cnt c A) (P.latest i c - P.now + 1) else P.cnt c A := by
  unfold Pl.cnt; rw [List.foldl_append]; rfl
theorem cnt_bd {P : Pl} (h : ∀ i c, P.latest i c - P.now + 1 ≤ 200001) (c : Int) (A : List Int) : 0 ≤ P.cnt c A ∧ P.cnt c A ≤ 200001 := by
  refine ⟨cnt_nonneg P c A, ?_⟩
  by_cases h0 : 0 < P.cnt c A
  · obtain ⟨i, -, -, e⟩ := cnt_hit P h0
    have := h i c
    omega
  · omega
theorem plT_late (t : Task) {now : Int} (hn : 0 ≤ now) : ∀ i c, (plT t now).latest i c - (plT t now).now + 1 ≤ 200001 := fun i c => by
  show latestF t i c - now + 1 ≤ 200001
  unfold latestF
  omega
def slK (t : Task) (now : Int) (A : List Int) (k : Nat) : Int := (((chL t).take k).map fun c => (plT t now).cnt c A * (chn t c).room).sum
theorem slK_zero (t : Task) (now : Int) (A : List Int) : slK t now A 0 = 0 := rfl
theorem slK_succ {t : Task} (now : Int) (A : List Int) {k : Nat} (h : k < t.chans.length) : slK t now A (k + 1) = slK t now A k + (plT t now).cnt (k : Int) A * (chn t (k : Int)).room := by
  unfold slK
  rw [take_snoc (chL_get h), List.map_append, List.sum_append]
  simp
theorem slK_end (t : Task) (now : Int) (A : List Int) : slK t now A t.chans.length = (plT t now).slots (chL t) A := by
  unfold slK Pl.slots
  rw [← chL_len, List.take_length]; rfl
theorem prod_bd {a b : Int} (ha : 0 ≤ a ∧ a ≤ 200001) (hb : 0 ≤ b ∧ b ≤ 20) : 0 ≤ a * b ∧ a * b ≤ 4000020 := by
  refine ⟨Int.mul_nonneg ha.1 hb.1, ?_⟩
  have := Int.mul_le_mul ha.2 hb.2 hb.1 (by decide)
  omega
theorem slK_bd {t : Task} (ht : TaskOk t) {now : Int} (hn : 0 ≤ now) (A : List Int) : ∀ k, k ≤ t.chans.length → 0 ≤ slK t now A k ∧ slK t now A k ≤ k * 4000020
  | 0, _ => ⟨Int.le_refl _, Int.le_refl _⟩
  | k + 1, h => by
    have h1 := slK_bd ht hn A k (by omega)
    have h2 := prod_bd (cnt_bd (plT_late t hn) (k : Int) A) (chan_ok ht (c := (k : Int)) ⟨by omega, by omega⟩).2
    rw [slK_succ now A (by omega)]
    push_cast
    omega
theorem ofE_of {t : Task} {i : Int} (h : (checkA t).2.2 = 0) (hi : 0 ≤ i ∧ i < t.towns.length) : ofE t i = 0 := by
  unfold ofE
  rw [if_neg (fun h' => h' h), if_neg (by rw [outB_false.2 (by omega)]; decide)]
theorem arrR_of {t : Task} {i : Int} (h : (checkA t).2.2 = 0) (hi : 0 ≤ i ∧ i < t.towns.length) : arrR t i = (arr t i, 0) := by
  unfold arrR
  rw [if_neg (fun h' => h' (ofE_of h hi))]
end Bx
/- part Aw23 -/
namespace Go.Proofs.YtmoilbakmlekbaaGreatDoor
open Go Bx
/-- barrage/barragelaw11.has -/
theorem c_has {l : List Int} {n : Int} {v : Value} {w0 : World} (hl : Sl w0 1 RInt v l) : CV Tryz.prog 21 #[v, .int .i64 n] w0 (.bool (decide (n ∈ l))) := by
  obtain ⟨a, cap, rfl, hcap, hmx, hel⟩ := hl
  refine enter Tryz.func21 rfl Tryz.ntmps21 rfl ?_
  have hS := St.start w0
  refine seq ?_
  refine region ?_
  refine sv (yAsg rfl) ?_
  refine nil ?_
  show Code.wp _ _ _ _ _
  refine seq ?_
  refine seq ?_
  refine region ?_
  refine sv (yAsg rfl) ?_
  refine nil ?_
  show Code.wp _ _ _ _ _
  refine block ?_
  refine loop (fun f w zz => ∃ (k : Nat), f 0 = .slice a l.length cap ∧ f 1 = .int .i64 n ∧ f 5 = .int .i64 (k : Int) ∧ StX [] w0 w [] ∧ (k ≤ l.length) ∧ (n ∈ l ↔ n ∈ l.drop k) ∧ zz = l.length - k) _ ⟨_, rfl, 0, rfl, rfl, rfl, hS, (Nat.zero_le _), (Iff.rfl), rfl⟩ ?_
  clear hS
  rintro f w _ ⟨k, h0, h1, h5, hS, hk, hI, rfl⟩
  refine seq ?_
  refine seq ?_
  refine region ?_
  refine sv (yMove h5) ?_
  refine sv (yMove h0) ?_
  refine sv (yLen rfl Tryz.underlying34) ?_
  refine sv (yLss rfl rfl) ?_
  refine nil ?_
  show Code.wp _ _ _ _ _
  refine cond rfl (fun c9 => ?_) (fun c9 => ?_)
  ·
    simp only [Bool.and_eq_true, Bool.or_eq_true, Bool.and_eq_false_iff, Bool.or_eq_false_iff, decide_eq_true_eq, decide_eq_false_iff_not, Bool.not_eq_true, Bool.not_eq_false, Bool.not_not, Bool.not_eq_eq_eq_not, Bool.not_true, Bool.not_false, Bool.false_eq_true, Bool.true_eq_false, ne_eq, Decidable.not_not, not_false_eq_true, not_true_eq_false] at c9
    obtain ⟨x, hxx, hdx⟩ := drop_of (l := l) (k := k) (by omega)
    obtain ⟨bx, ox, csx, hax, hlenx, hcsx, hRx⟩ := hel (k) (by omega)
    obtain rfl : x = l[k] := (List.getElem?_eq_some_iff.1 hxx).2.symm
    generalize l[k] = x at hxx hdx hRx
    obtain ⟨rfl, -⟩ := hRx
    refine skip ?_
    show Code.wp _ _ _ _ _
    refine seq ?_
    refine block ?_
    refine seq ?_
    refine region ?_
    refine sv (yMove h0) ?_
    refine sv (yMove h5) ?_
    refine sv (yIxa rfl hax rfl Tryz.runUnderlying34 Tryz.sizeOf3 (by omega) (by omega)) ?_
    refine sv (yLd rfl Tryz.isAgg3 ((hcsx.ext hS.ext).one)) ?_
    refine sv (yMove h1) ?_
    refine sv (yEql rfl rfl) ?_
    refine nil ?_
    show Code.wp _ _ _ _ _
    refine cond rfl (fun c17 => ?_) (fun c17 => ?_)
    ·
      simp only [Bool.and_eq_true, Bool.or_eq_true, Bool.and_eq_false_iff, Bool.or_eq_false_iff, decide_eq_true_eq, decide_eq_false_iff_not, Bool.not_eq_true, Bool.not_eq_false, Bool.not_not, Bool.not_eq_eq_eq_not, Bool.not_true, Bool.not_false, Bool.false_eq_true, Bool.true_eq_false, ne_eq, Decidable.not_not, not_false_eq_true, not_true_eq_false] at c17
      refine seq ?_
      refine region ?_
      refine sv (yAsg rfl) ?_
      refine nil ?_
      show Code.wp _ _ _ _ _
      refine wp_ret (blockR (thenR (thenR (blockR (thenR ?_)))))
      exact retV (res1 rfl (eqB (decide_eq_true (by rw [hI, hdx, c17]; exact List.mem_cons_self ..)))) hS.ext
    ·
      simp only [Bool.and_eq_true, Bool.or_eq_true, Bool.and_eq_false_iff, Bool.or_eq_false_iff, decide_eq_true_eq, decide_eq_false_iff_not, Bool.not_eq_true, Bool.not_eq_false, Bool.not_not, Bool.not_eq_eq_eq_not, Bool.not_true, Bool.not_false, Bool.false_eq_true, Bool.true_eq_false, ne_eq, Decidable.not_not, not_false_eq_true, not_true_eq_false] at c17
      refine skip ?_
      show Code.wp _ _ _ _ _
      refine region ?_
      refine sv (yMove h5) ?_
      refine sv (yAdd rfl rfl ⟨by omega, by omega⟩) ?_
      refine sv (yAsg rfl) ?_
      refine nil ?_
      exact ⟨_, _, rfl, ⟨k + 1, h0, h1, rfl, hS, (by omega), (by rw [hI, hdx, List.mem_cons]; exact ⟨fun h => h.resolve_left (fun e => c17 e.symm), .inr⟩), rfl⟩, by omega⟩
  ·
    simp only [Bool.and_eq_true, Bool.or_eq_true, Bool.and_eq_false_iff, Bool.or_eq_false_iff, decide_eq_true_eq, decide_eq_false_iff_not, Bool.not_eq_true, Bool.not_eq_false, Bool.not_not, Bool.not_eq_eq_eq_not, Bool.not_true, Bool.not_false, Bool.false_eq_true, Bool.true_eq_false, ne_eq, Decidable.not_not, not_false_eq_true, not_true_eq_false] at c9
    obtain rfl : k = l.length := by omega
    refine exit ?_
    show Code.wp _ _ _ _ _
    refine seq ?_
    refine region ?_
    refine sv (yAsg rfl) ?_
    refine nil ?_
    show Code.wp _ _ _ _ _
    refine wp_ret ?_
    exact retV (res1 rfl (eqB (decide_eq_false (by rw [hI, List.drop_length]; simp)))) hS.ext
end Go.Proofs.YtmoilbakmlekbaaGreatDoor
