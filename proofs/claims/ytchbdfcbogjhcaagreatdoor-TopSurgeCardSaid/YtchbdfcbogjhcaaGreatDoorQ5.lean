/- Merged texts, part 5. -/
import Derived.Test.YtchbdfcbogjhcaaGreatDoorQ4
set_option linter.all false
set_option maxHeartbeats 8000000
namespace Bx
open Go Go.RowKit
section
variable {b : Bas} (h : BasOk b)
include h
theorem idx_mono {v v' : Int} (h0 : vlB b 0 ≤ v) (hv : v ≤ v') : idxB b v ≤ idxB b v' := by
 have hi := idxR_vl b v h0 (b.rows.length - 2)
 apply Decidable.byContradiction
 intro hc
 have := idxR_gt b v' (b.rows.length - 2) (idxB b v) (by unfold idxB at hc ⊢; omega) (idxR_le _ _ _)
 unfold idxB at *
 omega
theorem ex_lip {r v v' : Int} (hr : 0 ≤ r) (hw : WideB b r) (h0 : vlB b 0 ≤ v) (hv : v ≤ v') :
    0 ≤ exN b v' * exD b v - exN b v * exD b v' ∧ r * (exN b v' * exD b v - exN b v * exD b v') ≤ (v' - v) * (exD b v * exD b v') := by
  have hij := idx_mono h h0 hv
  have hi := idx_lt h v
  have hj := idx_lt h v'
  have a1 : vlB b (idxB b v) ≤ v := idxR_vl b v h0 _
  have a2 : vlB b (idxB b v') ≤ v' := idxR_vl b v' (by omega) _
  have d1 := exD_bd h v
  have d2 := exD_bd h v'
  have l1 := dl_bd h v
  have l2 := dl_bd h v'
  have w1 : r * (lvB b (idxB b v + 1) - lvB b (idxB b v)) ≤ exD b v := hw _ (by omega)
  have w2 : r * (lvB b (idxB b v' + 1) - lvB b (idxB b v')) ≤ exD b v' := hw _ (by omega)
  have e1 : exN b v = lvB b (idxB b v) * exD b v + (v - vlB b (idxB b v)) * (lvB b (idxB b v + 1) - lvB b (idxB b v)) := rfl
  have e2 : exN b v' = lvB b (idxB b v') * exD b v' + (v' - vlB b (idxB b v')) * (lvB b (idxB b v' + 1) - lvB b (idxB b v')) := rfl
  have c1 : exD b v = vlB b (idxB b v + 1) - vlB b (idxB b v) := rfl
  by_cases he : idxB b v = idxB b v'
  · have hd : exD b v' = exD b v := by unfold exD; rw [he]
    rw [e1, e2, hd, ← he]
    rw [← he] at w2
    generalize exD b v = d at *
    generalize lvB b (idxB b v) = x at *
    generalize lvB b (idxB b v + 1) = y at *
    generalize vlB b (idxB b v) = z at *
    have k1 : (x * d + (v' - z) * (y - x)) * d - (x * d + (v - z) * (y - x)) * d = (v' - v) * ((y - x) * d) := by
      have k0 : (v' - v) * (y - x) = (v' - z) * (y - x) - (v - z) * (y - x) := by rw [← Int.sub_mul]; congr 1; omega
      rw [← Int.sub_mul, show x * d + (v' - z) * (y - x) - (x * d + (v - z) * (y - x)) = (v' - v) * (y - x) by rw [k0]; omega, Int.mul_assoc]
    rw [k1]
    have k2 : 0 ≤ (y - x) * d := Int.mul_nonneg (by omega) (by omega)
    refine ⟨Int.mul_nonneg (by omega) k2, ?_⟩
    rw [Int.mul_left_comm]
    refine Int.mul_le_mul_of_nonneg_left ?_ (by omega)
    rw [← Int.mul_assoc]
    exact Int.mul_le_mul_of_nonneg_right w1 (by omega)
  · have hlt : idxB b v + 1 ≤ idxB b v' := by omega
    have g1 : v < vlB b (idxB b v + 1) := idxR_gt b v (b.rows.length - 2) (idxB b v + 1) (Nat.lt_succ_self _) (by omega)
    have g2 : vlB b (idxB b v + 1) ≤ vlB b (idxB b v') := vl_mono h hlt (by omega)
    have g3 : lvB b (idxB b v + 1) ≤ lvB b (idxB b v') := lv_mono h hlt (by omega)
    have g4 : r * (lvB b (idxB b v') - lvB b (idxB b v + 1)) ≤ vlB b (idxB b v') - vlB b (idxB b v + 1) := by
      have : ∀ n, idxB b v + 1 + n < b.rows.length → r * (lvB b (idxB b v + 1 + n) - lvB b (idxB b v + 1)) ≤ vlB b (idxB b v + 1 + n) - vlB b (idxB b v + 1) := by
        intro n
        induction n with
        | zero => intro _; simp
        | succ n ih =>
          intro hn
          have q1 := ih (by omega)
          have q2 := hw (idxB b v + 1 + n) (by omega)
          have e : r * (lvB b (idxB b v + 1 + (n + 1)) - lvB b (idxB b v + 1)) = r * (lvB b (idxB b v + 1 + n) - lvB b (idxB b v + 1)) + r * (lvB b (idxB b v + 1 + n + 1) - lvB b (idxB b v + 1 + n)) := by rw [← Int.mul_add]; congr 1; rw [← Nat.add_assoc]; omega
          rw [e, ← Nat.add_assoc]; omega
      have := this (idxB b v' - (idxB b v + 1)) (by omega)
      rw [show idxB b v + 1 + (idxB b v' - (idxB b v + 1)) = idxB b v' by omega] at this
      exact this
    rw [e1, e2]
    generalize exD b v = d at *
    generalize exD b v' = d' at *
    generalize lvB b (idxB b v) = x at *
    generalize lvB b (idxB b v + 1) = y at *
    generalize lvB b (idxB b v') = x' at *
    generalize lvB b (idxB b v' + 1) = y' at *
    generalize vlB b (idxB b v) = z at *
    generalize vlB b (idxB b v + 1) = u at *
    generalize vlB b (idxB b v') = z' at *
    subst c1
    have k1 : (x' * d' + (v' - z') * (y' - x')) * (u - z) - (x * (u - z) + (v - z) * (y - x)) * d' = (u - z) * ((v' - z') * (y' - x')) + ((u - z) * d' * (x' - y) + d' * ((u - v) * (y - x))) := by
      simp only [Int.mul_add, Int.add_mul, Int.mul_sub, Int.sub_mul, Int.mul_assoc, Int.mul_left_comm, Int.mul_comm]; omega
    rw [k1]
    have n1 : 0 ≤ (v' - z') * (y' - x') := Int.mul_nonneg (by omega) (by omega)
    have n2 : 0 ≤ (u - v) * (y - x) := Int.mul_nonneg (by omega) (by omega)
    have n3 : 0 ≤ (u - z) * d' := Int.mul_nonneg (by omega) (by omega)
    have m1 : 0 ≤ (u - z) * ((v' - z') * (y' - x')) := Int.mul_nonneg (by omega) n1
    have m2 : 0 ≤ (u - z) * d' * (x' - y) := Int.mul_nonneg n3 (by omega)
    have m3 : 0 ≤ d' * ((u - v) * (y - x)) := Int.mul_nonneg (by omega) n2
    refine ⟨by omega, ?_⟩
    rw [Int.mul_add, Int.mul_add]
    have s1 : r * ((u - z) * ((v' - z') * (y' - x'))) ≤ (u - z) * ((v' - z') * d') := by
      rw [show r * ((u - z) * ((v' - z') * (y' - x'))) = (u - z) * ((v' - z') * (r * (y' - x'))) by rw [Int.mul_left_comm]; congr 1; rw [Int.mul_left_comm]]
      exact Int.mul_le_mul_of_nonneg_left (Int.mul_le_mul_of_nonneg_left w2 (by omega)) (by omega)
    have s2 : r * ((u - z) * d' * (x' - y)) ≤ (u - z) * d' * (z' - u) := by
      rw [Int.mul_left_comm]
      exact Int.mul_le_mul_of_nonneg_left g4 n3
    have s3 : r * (d' * ((u - v) * (y - x))) ≤ d' * ((u - v) * (u - z)) := by
      rw [show r * (d' * ((u - v) * (y - x))) = d' * ((u - v) * (r * (y - x))) by rw [Int.mul_left_comm]; congr 1; rw [Int.mul_left_comm]]
      exact Int.mul_le_mul_of_nonneg_left (Int.mul_le_mul_of_nonneg_left w1 (by omega)) (by omega)
    have e : (v' - v) * ((u - z) * d') = (u - z) * ((v' - z') * d') + ((u - z) * d' * (z' - u) + d' * ((u - v) * (u - z))) := by
      rw [show v' - v = (v' - z') + ((z' - u) + (u - v)) by omega, Int.add_mul, Int.add_mul]
      congr 1
      · rw [Int.mul_left_comm]
      · congr 1
        · rw [Int.mul_comm]
        · rw [Int.mul_comm (u - z) d', Int.mul_left_comm]
    rw [e]; omega
end
def riseB (b : Bas) (r o v : Int) : Int := r * (exN b v - o * exD b v) / exD b v
theorem riseB_mono {b : Bas} (h : BasOk b) {r o v v' : Int} (hr : 0 ≤ r) (hw : WideB b r) (h0 : vlB b 0 ≤ v) (hv : v ≤ v') : riseB b r o v ≤ riseB b r o v' ∧ riseB b r o v' - riseB b r o v ≤ v' - v := by
 obtain ⟨l1, l2⟩ := ex_lip h hr hw h0 hv
 have d1 := exD_bd h v
 have d2 := exD_bd h v'
 unfold riseB
 generalize exN b v = n at *
 generalize exN b v' = n' at *
 generalize exD b v = d at *
 generalize exD b v' = d' at *
 have q1 := Int.ediv_mul_le (r * (n - o * d)) (show d ≠ 0 by omega)
 have q2 := Int.ediv_mul_le (r * (n' - o * d')) (show d' ≠ 0 by omega)
 have hx : r * (n' - o * d') * d - r * (n - o * d) * d' = r * (n' * d - n * d') := by
  rw [Int.mul_assoc, Int.mul_assoc, ← Int.mul_sub]; congr 1; rw [Int.sub_mul, Int.sub_mul, Int.mul_assoc, Int.mul_assoc, Int.mul_comm d' d]; omega
 have hn : 0 ≤ r * (n' * d - n * d') := Int.mul_nonneg hr l1
 generalize hp : r * (n - o * d) = p at *
 generalize hp' : r * (n' - o * d') = p' at *
 generalize hq : p / d = q at *
 constructor
 ·
  refine (Int.le_ediv_iff_mul_le (by omega)).2 ?_
  have k1 : q * d * d' ≤ p * d' := Int.mul_le_mul_of_nonneg_right q1 (by omega)
  have k2 : q * d' * d ≤ p' * d := by rw [Int.mul_assoc, Int.mul_comm d' d, ← Int.mul_assoc]; omega
  exact Int.le_of_mul_le_mul_right k2 (by omega)
 ·
  generalize hq' : p' / d' = q' at *
  have : q' - (v' - v) ≤ q := by
   rw [← hq]
   refine (Int.le_ediv_iff_mul_le (by omega)).2 ?_
   have k1 : q' * d' * d ≤ p' * d := Int.mul_le_mul_of_nonneg_right q2 (by omega)
   have k2 : (q' - (v' - v)) * d * d' ≤ p * d' := by
    rw [Int.sub_mul, Int.sub_mul]
    have e1 : q' * d * d' = q' * d' * d := by rw [Int.mul_assoc, Int.mul_comm d d', ← Int.mul_assoc]
    have e2 : (v' - v) * d * d' = (v' - v) * (d * d') := Int.mul_assoc ..
    rw [e1, e2]; omega
   exact Int.le_of_mul_le_mul_right k2 (by omega)
  omega
theorem leak_mono {b : Bas} (h : BasOk b) {o o' v v' : Int} (h0 : vlB b 0 ≤ v) (hv : v ≤ v') (ho : o ≤ o') : v + leakB b v o ≤ v' + leakB b v' o' := by
 obtain ⟨l1, l2⟩ := ex_lip h h.leak.1 h.wleak h0 hv
 have d1 := exD_bd h v
 have d2 := exD_bd h v'
 have hr := h.leak.1
 have key : v + b.leak * (o * exD b v - exN b v) / exD b v ≤ v' + b.leak * (o' * exD b v' - exN b v') / exD b v' := by
  generalize exN b v = n at *
  generalize exN b v' = n' at *
  generalize exD b v = d at *
  generalize exD b v' = d' at *
  generalize b.leak = r at *
  have q1 := Int.ediv_mul_le (r * (o * d - n)) (show d ≠ 0 by omega)
  generalize hq : r * (o * d - n) / d = q at *
  have : q - (v' - v) ≤ r * (o' * d' - n') / d' := by
   refine (Int.le_ediv_iff_mul_le (by omega)).2 ?_
   have hx : r * (o' * d' - n') * d - r * (o * d - n) * d' = r * ((o' - o) * (d * d')) - r * (n' * d - n * d') := by
    rw [Int.mul_assoc, Int.mul_assoc, ← Int.mul_sub, ← Int.mul_sub]; congr 1
    simp only [Int.mul_sub, Int.sub_mul, Int.mul_assoc, Int.mul_left_comm, Int.mul_comm]; omega
   have hn : 0 ≤ r * ((o' - o) * (d * d')) := Int.mul_nonneg hr (Int.mul_nonneg (by omega) (Int.mul_nonneg (by omega) (by omega)))
   have k1 : q * d * d' ≤ r * (o * d - n) * d' := Int.mul_le_mul_of_nonneg_right q1 (by omega)
   have k2 : (q - (v' - v)) * d' * d ≤ r * (o' * d' - n') * d := by
    rw [Int.sub_mul, Int.sub_mul]
    have e1 : q * d' * d = q * d * d' := by rw [Int.mul_assoc, Int.mul_comm d' d, ← Int.mul_assoc]
    have e2 : (v' - v) * d' * d = (v' - v) * (d * d') := by rw [Int.mul_assoc, Int.mul_comm d' d]
    rw [e1, e2]; omega
   exact Int.le_of_mul_le_mul_right k2 (by omega)
  omega
 unfold leakB
 omega
theorem take_mono {b : Bas} (h : BasOk b) {x : Pol} {v v' f f' : Int} (ht : 0 ≤ x.take) (hw : WideB b x.take) (h0 : vlB b 0 ≤ v) (hv : v ≤ v') (hf : f ≤ f') (hr : f' ≤ x.room) : v - takeB b v x f ≤ v' - takeB b v' x f' ∧ f + takeB b v x f ≤ f' + takeB b v' x f' := by
 have e : ∀ u, takeB b u x f = min (max 0 (riseB b x.take x.sill u)) (x.room - f) ∧ takeB b u x f' = min (max 0 (riseB b x.take x.sill u)) (x.room - f') := fun u => by
  have hd := (exD_bd h u).1
  unfold takeB
  split
  ·
   next h1 =>
   have : 0 ≤ riseB b x.take x.sill u := Int.ediv_nonneg (Int.mul_nonneg ht (by omega)) (by omega)
   unfold riseB at this ⊢
   rw [Int.max_eq_right this]
   exact ⟨rfl, rfl⟩
  ·
   next h1 =>
   have : riseB b x.take x.sill u ≤ 0 := by
    unfold riseB
    refine Int.ediv_le_of_le_mul (by omega) ?_
    rw [Int.zero_mul]
    have := Int.mul_nonneg ht (show 0 ≤ -(exN b u - x.sill * exD b u) by omega)
    rw [Int.mul_neg] at this
    omega
   rw [Int.max_eq_left this]
   omega
 obtain ⟨m1, m2⟩ := riseB_mono (o := x.sill) h ht hw h0 hv
 rw [(e v).1, (e v').2]
 omega
structure LeS (b : Bas) (s s' : BSt) : Prop where
 vol : s.volume ≤ s'.volume
 fil : ∀ i, i < b.pols.length → flB s.filled i ≤ flB s'.filled i
structure LeT (t t' : BTk) : Prop where
 outer : t.outer ≤ t'.outer
 river : t.river ≤ t'.river
 out : t.out = t'.out
theorem fil_step (b : Bas) (s : BSt) (t : BTk) {i : Nat} (hi : i < b.pols.length) : flB (bstS b s t).filled i = flB s.filled i + tkP b s.filled (v4B b s t) i := by
 show flB (filP _ _ _ _) i = _
 unfold flB filP; simp [List.getD, hi, flB]
theorem step_mono {b : Bas} (h : BasOk b) {s s' : BSt} {t t' : BTk} (hs : BstOk b s) (hs' : BstOk b s') (hl : LeS b s s') (hlt : LeT t t') (he : stepE b s t = 0) (he' : stepE b s' t' = 0) : LeS b (bstS b s t) (bstS b s' t') := by
 obtain ⟨k1, k2, k3, k4⟩ := stepE_ok he
 obtain ⟨j1, j2, j3, j4⟩ := stepE_ok he'
 have ht := tk_ok k1
 have ht' := tk_ok j1
 have ho : ovB b t ≤ ovB b t' := Int.mul_le_mul_of_nonneg_left (by have := hlt.outer; omega) h.over.1
 have b2 : v2B b s t ≤ v2B b s' t' := by have := hl.vol; have := hlt.river; unfold v2B v1B; omega
 have b3 : v3B b s t ≤ v3B b s' t' := leak_mono h (v2_bd h hs ht).1 b2 hlt.outer
 have b4 : v4B b s t ≤ v4B b s' t' := by have := hlt.out; unfold v4B outV; omega
 have w4 := v4_bd h hs ht k3 k4
 have w4' := v4_bd h hs' ht' j3 j4
 have hv : ∀ k, k ≤ b.pols.length → volP b s.filled (v4B b s t) k ≤ volP b s'.filled (v4B b s' t') k := by
  intro k
  induction k with
  | zero => intro _; exact b4
  | succ k ih =>
   intro hk
   obtain ⟨p1, p2, p3, p4⟩ := plB_ok h (show k < b.pols.length by omega)
   exact (take_mono h p2.1 p4 (volP_bd h hs.fil w4 k (by omega)).1 (ih (by omega)) (hl.fil k (by omega)) (hs'.fil k (by omega)).2).1
 refine ⟨hv _ (Nat.le_refl _), fun i hi => ?_⟩
 rw [fil_step b s t hi, fil_step b s' t' hi]
 obtain ⟨p1, p2, p3, p4⟩ := plB_ok h hi
 exact (take_mono h p2.1 p4 (volP_bd h hs.fil w4 i (by omega)).1 (hv i (by omega)) (hl.fil i hi) (hs'.fil i hi).2).2
structure LeL (l l' : List BTk) : Prop where
 len : l.length = l'.length
 le : ∀ i, i < l.length → LeT (tkL l i) (tkL l' i)
end Bx
namespace Go.Proofs.YtchbdfcbogjhcaaGreatDoor
open Go Bx Go.Proofs.Tryz
theorem c_bout {a lo hi : Int} {w0 : World} : CV Tryz.prog 85 #[.int .i64 a, .int .i64 lo, .int .i64 hi] w0 (.bool (outB a lo hi)) := by
 refine enQ func85 rfl ntmps85 rfl fun hS => ?_
 refine seq <| region <| vA <| nil <| cwQ <| seq <| region <| vM <| vM <| sv (yLss rfl rfl) <| vM ?_
 refine sg rfl rfl rfl (fun g => (yMove rfl)) (fun v11 g11 => ?_)
 refine sg rfl rfl rfl (fun g => (yMove rfl)) (fun v12 g12 => ?_)
 refine sg rfl rfl rfl (fun g => (yGtr (g11.1 g) (g12.1 g))) (fun v13 g13 => ?_)
 refine sv (yOr rfl rfl (fun hB => (g13.1 hB))) <| vA <| nil <| cwQ <| wp_ret ?_
 exact rvQ hS
theorem c_high {a : Int} {w0 : World} : CV Tryz.prog 114 #[.int .i64 a] w0 (.bool (outB a (-20000) 20000)) := by
 refine enQ func114 rfl ntmps114 rfl fun hS => ?_
 refine seq <| region <| vA <| nil <| cwQ <| seq <| region <| vM ?_
 refine scV hS call85 e3 c_bout fun w hS => ?_
 refine vA <| nil <| cwQ <| wp_ret ?_
 exact rvQ hS
theorem c_CheckB {b : Bas} {cs : List Value} {w0 : World} (h : RBas w0 cs b) : CV Tryz.prog 72 #[.agg cs.toArray] w0 (.tuple #[.int .i64 (checkB b).1, .int .i64 (checkB b).2.1, .int .i64 (checkB b).2.2]) := by
 obtain ⟨rv, pv, rfl, hsr, hlk, hcr, hov, hsp⟩ := id h
 obtain ⟨ar, cr, rfl, hrcap, hrmx, hrel⟩ := id hsr
 obtain ⟨ap, cp, rfl, hpcap, hpmx, hpel⟩ := id hsp
 refine enQ func72 rfl ntmps72 rfl fun hS => ?_
 refine seq <| region ?_
 refine sbox hS rfl rfl fun b1 w hS => ?_
 refine vA <| vA <| vA <| nil <| cwQ <| seq <| seq <| region <| sv (fa38_0 rfl) <| vL rfl isAgg35 hS rfl <| sv (yLen rfl underlying35) ?_
 refine scV hS call85 e3 c_bout fun w hS => ?_
 refine nil <| cwQ ?_
 refine cond rfl (fun c17 => ?_) (fun c17 => ?_)
 ·
  refine seq <| region <| vA <| vA <| vA <| nil <| cwQ ?_
  have hfin : checkB b = (1, 0, 3) := by unfold checkB; rw [if_pos c17]
  refine wp_ret (thenR ?_)
  exact retV (res3 rfl (fstI hfin) (thd1I hfin) (thd2I hfin)) hS.ext
 refine skip <| cwQ <| seq <| seq <| region <| sv (fa38_0 rfl) <| vL rfl isAgg35 hS rfl <| sv (yLen rfl underlying35) <| vM <| nil <| cwQ <| block <| loop (fun f w zz => ∃ (k : Nat), f 1 = ptQ b1 ∧ f 19 = .slice ar b.rows.length cr ∧ f 20 = .int .i64 (b.rows.length : Int) ∧ f 21 = .int .i64 (k : Int) ∧ StX [] w0 w [blk b1 [.slice ar b.rows.length cr, .int .i64 b.leak, .int .i64 b.crest, .int .i64 b.over, .slice ap b.pols.length cp] 38] ∧ (k ≤ b.rows.length) ∧ (firstN (rowE b) b.rows.length 0 = firstN (rowE b) (b.rows.length - k) k) ∧ zz = b.rows.length - k) _ ⟨_, rfl, 0, rfl, rfl, rfl, rfl, hS, (Nat.zero_le _), (rfl), rfl⟩ ?_
 clear hS
 rintro f w _ ⟨k, h1, h19, h20, h21, hS, hk, hI, rfl⟩
 refine seq <| region <| sv (yLss h21 h20) <| nil <| cwQ <| seq ?_
 refine cond rfl ?_ ?_ <;> intro c22 <;> simp only [BS, ne_eq] at c22
 ·
  have hkl : k < b.rows.length := by omega
  obtain ⟨m1, hm1⟩ : ∃ m, b.rows.length - k = m + 1 := ⟨b.rows.length - k - 1, by omega⟩
  have hxq := brow_get (b := b) hkl
  obtain ⟨bx, ox, cx, hax, hlx, hcx, hRx, -⟩ := sl_at hsr hxq
  obtain ⟨rfl, hxl, hxv⟩ := hRx
  obtain ⟨by0, oy0, hay⟩ := row_if hsr k hk
  refine skip <| cwQ <| seq <| block <| seq <| region <| sv (yMove h21) <| sv (yIxQ h19 hax h21 runUnderlying35 sizeOf171) <| sv (yLdA rfl isAgg171 sizeOf171 (hcx.ext hS.ext) rfl) ?_
  refine salloc hS zeroValue171 rfl fun b6 w hS => ?_
  refine vA ?_
  refine sS hS rfl sizeOf171 fun w hS => ?_
  refine nil <| cwQ <| block <| seq <| region <| sv (fa171_0 rfl) <| vL rfl isAgg3 hS rfl ?_
  refine scV hS call114 e1 c_high fun w hS => ?_
  refine vM ?_
  refine sg rfl rfl rfl (fun g => (fa171_1 rfl)) (fun v31 g31 => ?_)
  refine sg rfl rfl rfl (fun g => (yLdB (g31.1 g) isAgg3 (hS.at _) rfl)) (fun v32 g32 => ?_)
  refine sgc hS rfl rfl rfl call85 (fun g => (.cons (g32.1 g) e2)) (fun g => c_bout) ?_; clear hS; intro v33 w hS g33
  refine sv (yOr rfl rfl (fun hB => (g33.1 hB))) <| vA <| nil <| cwQ ?_
  refine cond rfl (fun c26 => ?_) (fun c26 => ?_)
  ·
   refine seq <| region <| vM <| vA <| vA <| vA <| nil <| cwQ ?_
   have hfin : checkB b = (1, (k : Int), 7) := by unfold checkB; rw [if_neg (by rw [c17]; decide), if_pos (by rw [hI, hm1, firstN_hit (by rw [rowE_7 c26]; decide), rowE_7 c26]; show (7 : Int) ≠ 0; decide), hI, hm1, firstN_hit (by rw [rowE_7 c26]; decide), rowE_7 c26]
   refine wp_ret (blockR (blockR (thenR (thenR (blockR (thenR ?_))))))
   exact retV (res3 rfl (fstI hfin) (thd1I hfin) (thd2I hfin)) hS.ext
  refine seq <| region_draw mixed (by kernel_rfl) hS <| qv (fun w hS => yMove rfl) <| qv (fun w hS => yGtr rfl rfl) <| qv (fun w hS => yMove rfl) ?_
  refine qg rfl rfl rfl (fun g w hS => (fa171_0 rfl)) (fun v40 g40 => ?_)
  refine qg rfl rfl rfl (fun g w hS => (yLdB (g40.1 g) isAgg3 (hS.at _) rfl)) (fun v41 g41 => ?_)
  refine qg rfl rfl rfl (fun g w hS => (fa38_0 h1)) (fun v42 g42 => ?_)
  refine qg rfl rfl rfl (fun g w hS => (yLdB (g42.1 g) isAgg35 (hS.at _) rfl)) (fun v43 g43 => ?_)
  refine qg rfl rfl rfl (fun g w hS => (yMove rfl)) (fun v44 g44 => ?_)
  refine qg rfl rfl rfl (fun g w hS => (ySub (g44.1 g) rfl ⟨by omega, by omega⟩)) (fun v45 g45 => ?_)
  refine qg rfl rfl rfl (fun g w hS => (yIxa (g43.1 g) (hay (of_decide_eq_true g)).1 (g45.1 g) runUnderlying35 sizeOf171 (by have := (of_decide_eq_true g); omega) (by have := (of_decide_eq_true g); omega))) (fun v46 g46 => ?_)
  refine qg rfl rfl rfl (fun g w hS => (fa171_0 (g46.1 g))) (fun v47 g47 => ?_)
  refine qg rfl rfl rfl (fun g w hS => (yLd (g47.1 g) isAgg3 (((hay (of_decide_eq_true g)).2.ext hS.ext).at (j := 0) rfl))) (fun v48 g48 => ?_)
  refine qg rfl rfl rfl (fun g w hS => (yLeq (g41.1 g) (g48.1 g))) (fun v49 g49 => ?_)
  refine qg rfl rfl rfl (fun g w hS => (yMove (g49.1 g))) (fun v50 g50 => ?_)
  refine qgg rfl rfl g50 (fun g w hS => (fa171_1 rfl)) (fun v51 g51 => ?_)
  refine qgg rfl rfl g50 (fun g w hS => (yLdB (g51.1 g) isAgg3 (hS.at _) rfl)) (fun v52 g52 => ?_)
  refine qgg rfl rfl g50 (fun g w hS => (fa38_0 h1)) (fun v53 g53 => ?_)
  refine qgg rfl rfl g50 (fun g w hS => (yLdB (g53.1 g) isAgg35 (hS.at _) rfl)) (fun v54 g54 => ?_)
  refine qgg rfl rfl g50 (fun g w hS => (yMove rfl)) (fun v55 g55 => ?_)
  refine qgg rfl rfl g50 (fun g w hS => (ySub (g55.1 g) rfl ⟨by omega, by omega⟩)) (fun v56 g56 => ?_)
  refine qgg rfl rfl g50 (fun g w hS => (yIxa (g54.1 g) (hay (of_decide_eq_true g.1)).1 (g56.1 g) runUnderlying35 sizeOf171 (by have := (of_decide_eq_true g.1); omega) (by have := (of_decide_eq_true g.1); omega))) (fun v57 g57 => ?_)
  refine qgg rfl rfl g50 (fun g w hS => (fa171_1 (g57.1 g))) (fun v58 g58 => ?_)
  refine qgg rfl rfl g50 (fun g w hS => (yLd (g58.1 g) isAgg3 (((hay (of_decide_eq_true g.1)).2.ext hS.ext).at (j := 1) rfl))) (fun v59 g59 => ?_)
  refine qgg rfl rfl g50 (fun g w hS => (yLeq (g52.1 g) (g59.1 g))) (fun v60 g60 => ?_)
  refine qg rfl rfl rfl (fun g w hS => (yOr (g50.1 g) rfl (fun hB => (g60.1 ⟨g, hB⟩)))) (fun v61 g61 => ?_)
  refine qv (fun w hS => yAnd rfl (fun hB => (g61.1 hB)) rfl) <| qv (fun w hS => yAsg rfl) ?_
  clear hS; refine qnil (fun w hS => ?_)
  refine cwQ ?_
  refine cond rfl ?_ ?_ <;> intro c36 <;> simp only [BS, ne_eq] at c36
  ·
   refine seq <| region <| vM <| vA <| vA <| vA <| nil <| cwQ ?_
   have hfin : checkB b = (1, (k : Int), 2) := by unfold checkB; rw [if_neg (by rw [c17]; decide), if_pos (by rw [hI, hm1, firstN_hit (by rw [rowE_2 c26 c36]; decide), rowE_2 c26 c36]; show (2 : Int) ≠ 0; decide), hI, hm1, firstN_hit (by rw [rowE_2 c26 c36]; decide), rowE_2 c26 c36]
   refine wp_ret (blockR (blockR (thenR (thenR (blockR (thenR ?_))))))
   exact retV (res3 rfl (fstI hfin) (thd1I hfin) (thd2I hfin)) hS.ext
  refine skip <| cwQ <| region <| sv (yAddQ h21 rfl) <| vM <| nil ?_
  exact ⟨_, _, rfl, ⟨k + 1, h1, h19, h20, rfl, (hS.sub (.cons _ lrQ)), (by omega), (by rw [hI, hm1, firstN_step (rowE_0 c26 c36), show m1 = b.rows.length - (k + 1) by omega]), rfl⟩, by omega⟩
 obtain rfl : k = b.rows.length := by omega
 have he1 : (firstN (rowE b) b.rows.length 0).2 = 0 := by rw [hI, Nat.sub_self]; rfl
 have hRW : ∀ i, i < b.rows.length → rowE b i = 0 := fun i hi => firstN_ok he1 i (Nat.zero_le _) (by omega)
 refine exit <| cwQ <| seq <| block <| seq <| region <| sv (fa38_1 h1) <| vL rfl isAgg3 hS rfl ?_
 refine scV hS call85 e3 c_bout fun w hS => ?_
 refine vM ?_
 refine sg rfl rfl rfl (fun g => (fa38_3 h1)) (fun v70 g70 => ?_)
 refine sg rfl rfl rfl (fun g => (yLdB (g70.1 g) isAgg3 (hS.at _) rfl)) (fun v71 g71 => ?_)
 refine sgc hS rfl rfl rfl call85 (fun g => (.cons (g71.1 g) e2)) (fun g => c_bout) ?_; clear hS; intro v72 w hS g72
 refine sv (yOr rfl rfl (fun hB => (g72.1 hB))) <| vM ?_
 refine sg rfl rfl rfl (fun g => (fa38_2 h1)) (fun v75 g75 => ?_)
 refine sg rfl rfl rfl (fun g => (yLdB (g75.1 g) isAgg3 (hS.at _) rfl)) (fun v76 g76 => ?_)
 refine sgc hS rfl rfl rfl call114 (fun g => (.cons (g76.1 g) .nil)) (fun g => c_high) ?_; clear hS; intro v77 w hS g77
 refine sv (yOr rfl rfl (fun hB => (g77.1 hB))) <| vA <| nil <| cwQ ?_
 refine cond rfl (fun c65 => ?_) (fun c65 => ?_)
 ·
  refine seq <| region <| vA <| vA <| vA <| nil <| cwQ ?_
  have hfin : checkB b = (2, 0, 7) := by unfold checkB; rw [if_neg (by rw [c17]; decide), if_neg (fun h => h he1), if_pos c65]
  refine wp_ret (blockR (thenR ?_))
  exact retV (res3 rfl (fstI hfin) (thd1I hfin) (thd2I hfin)) hS.ext
 refine seq <| region <| sv (fa38_4 h1) <| vL rfl isAgg36 hS rfl <| sv (yLen rfl underlying36) <| sv (yGtr rfl rfl) <| vA <| nil <| cwQ ?_
 refine cond rfl ?_ ?_ <;> intro c79 <;> simp only [BS, ne_eq] at c79
 ·
  refine seq <| region <| vA <| vA <| vA <| nil <| cwQ ?_
  have hfin : checkB b = (3, 0, 3) := by unfold checkB; rw [if_neg (by rw [c17]; decide), if_neg (fun h => h he1), if_neg (by rw [c65]; decide), if_pos c79]
  refine wp_ret (blockR (thenR ?_))
  exact retV (res3 rfl (fstI hfin) (thd1I hfin) (thd2I hfin)) hS.ext
 have hrl2 : 2 ≤ b.rows.length := by simp only [outB_false] at c17; omega
 obtain ⟨br0, or0, cr0, har0, hlr0, hcr0, hRr0, -⟩ := sl_at hsr (brow_get (b := b) (show 0 < b.rows.length by simp only [outB_false] at c17; omega))
 obtain ⟨rfl, hr01, hr02⟩ := hRr0
 refine skip <| cwQ <| seq <| region ?_
 refine smkmap Value.string hS ?_; clear hS; intro b84 w hS
 refine vA <| nil <| cwQ <| seq <| region <| sv (fa38_1 h1) <| vL rfl isAgg3 hS rfl <| vA <| nil <| cwQ <| seq <| seq <| region ?_
 refine sv (fa38_4 h1) <| vL rfl isAgg36 hS rfl <| sv (yLen rfl underlying36) <| vM <| nil <| cwQ <| block <| loop (fun f w zz => ∃ (k : Nat), f 1 = ptQ b1 ∧ f 7 = .map (some b84) ∧ f 8 = .int .i64 (greatB b (b.pols.take k)) ∧ f 88 = .slice ap b.pols.length cp ∧ f 89 = .int .i64 (b.pols.length : Int) ∧ f 90 = .int .i64 (k : Int) ∧ StX [] w0 w [mapI b84 Value.string (seenM ((b.pols.take k).map (·.name))), blk b1 [.slice ar b.rows.length cr, .int .i64 b.leak, .int .i64 b.crest, .int .i64 b.over, .slice ap b.pols.length cp] 38] ∧ (k ≤ b.pols.length) ∧ (namedR (·.name) (bpolE b) b.pols [] 0 = namedR (·.name) (bpolE b) (b.pols.drop k) ((b.pols.take k).map (·.name)) k) ∧ zz = b.pols.length - k) _ ⟨_, rfl, 0, h1, rfl, rfl, rfl, rfl, rfl, hS, (Nat.zero_le _), (rfl), rfl⟩ ?_
 clear hS
 rintro f w _ ⟨k, h1, h7, h8, h88, h89, h90, hS, hk, hI, rfl⟩
 refine seq <| region <| sv (yLss h90 h89) <| nil <| cwQ <| seq ?_
 refine cond rfl ?_ ?_ <;> intro c91 <;> simp only [BS, ne_eq] at c91
 ·
  refine skip <| cwQ <| seq <| block <| seq <| region ?_
  obtain ⟨x, hxq, hdq⟩ := drop_of (l := b.pols) (k := k) (by omega)
  obtain ⟨bq, oq, csq, haq, hlenq, hcsq, hRq⟩ := hpel (k) (by omega)
  obtain rfl : x = b.pols[k] := (List.getElem?_eq_some_iff.1 hxq).2.symm
  generalize b.pols[k] = x at hxq hdq hRq
  obtain ⟨rfl, hnm, hx1, hx2, hx3⟩ := hRq
  refine sv (yMove h90) <| sv (yIxQ h88 haq h90 runUnderlying36 sizeOf173) <| sv (yLdA rfl isAgg173 sizeOf173 (hcsq.ext hS.ext) rfl) ?_
  refine salloc hS zeroValue173 rfl fun b10 w hS => ?_
  refine vA ?_
  refine sS hS rfl sizeOf173 fun w hS => ?_
  refine nil <| cwQ <| seq <| block <| seq <| region <| sv (fa173_0 rfl) <| vL rfl isAgg9 hS rfl ?_
  refine scV hS call88 e1 (c_Name hnm) fun w hS => ?_
  refine sv (yNot rfl) <| vA <| nil <| cwQ ?_
  refine cond rfl (fun c95 => ?_) (fun c95 => ?_)
  ·
   refine seq <| region <| vM <| vA <| vA <| vA <| nil <| cwQ ?_
   have hfin : checkB b = (3, (k : Int), 6) := by unfold checkB; rw [if_neg (by rw [c17]; decide), if_neg (fun h => h he1), if_neg (by rw [c65]; decide), if_neg c79, if_pos (by rw [hI, hdq, namedR, if_pos c95]; show (6 : Int) ≠ 0; decide), hI, hdq, namedR, if_pos c95]
   refine wp_ret (blockR (thenR (blockR (thenR (thenR (blockR (thenR ?_)))))))
   exact retV (res3 rfl (fstI hfin) (thd1I hfin) (thd2I hfin)) hS.ext
  refine seq <| region <| sv (yMove h7) <| sv (fa173_0 rfl) <| vL rfl isAgg9 hS rfl <| sv (yLook Value.string rfl rfl runUnderlying197 (keyStr underlying9) zeroValue4 (hS.is _) (getM_seen _ _)) <| vA <| nil <| cwQ ?_
  refine cond rfl (fun c101 => ?_) (fun c101 => ?_)
  ·
   refine seq <| region <| vM <| vA <| vA <| vA <| nil <| cwQ ?_
   have hfin : checkB b = (3, (k : Int), 5) := by unfold checkB; rw [if_neg (by rw [c17]; decide), if_neg (fun h => h he1), if_neg (by rw [c65]; decide), if_neg c79, if_pos (by rw [hI, hdq, namedR, if_neg (by rw [c95]; decide), if_pos c101]; show (5 : Int) ≠ 0; decide), hI, hdq, namedR, if_neg (by rw [c95]; decide), if_pos c101]
   refine wp_ret (blockR (thenR (blockR (thenR (thenR (blockR (thenR ?_)))))))
   exact retV (res3 rfl (fstI hfin) (thd1I hfin) (thd2I hfin)) hS.ext
  refine seq <| region_draw mixed (by kernel_rfl) hS <| qv (fun w hS => fa173_1 rfl) <| qv (fun w hS => yLdB rfl isAgg3 (hS.at _) rfl) <| qv (fun w hS => fa38_0 h1) <| qv (fun w hS => yLdB rfl isAgg35 (hS.at _) rfl) <| qv (fun w hS => yIxQ rfl har0 rfl runUnderlying35 sizeOf171) <| qv (fun w hS => fa171_0 rfl) <| qv (fun w hS => yLd rfl isAgg3 ((hcr0.ext hS.ext).at (j := 0) rfl)) <| qcall call85 e3 (fun w hS => c_bout) <| qv (fun w hS => yMove rfl) ?_
  refine qg rfl rfl rfl (fun g w hS => (fa173_2 rfl)) (fun v117 g117 => ?_)
  refine qg rfl rfl rfl (fun g w hS => (yLdB (g117.1 g) isAgg3 (hS.at _) rfl)) (fun v118 g118 => ?_)
  refine qgc rfl rfl rfl call85 (fun g => (.cons (g118.1 g) e2)) (fun g w hS => c_bout) (fun v119 g119 => ?_)
  refine qv (fun w hS => yOr rfl rfl (fun hB => (g119.1 hB))) <| qv (fun w hS => yMove rfl) ?_
  refine qg rfl rfl rfl (fun g w hS => (fa173_3 rfl)) (fun v122 g122 => ?_)
  refine qg rfl rfl rfl (fun g w hS => (yLdB (g122.1 g) isAgg3 (hS.at _) rfl)) (fun v123 g123 => ?_)
  refine qgc rfl rfl rfl call85 (fun g => (.cons (g123.1 g) e2)) (fun g w hS => c_bout) (fun v124 g124 => ?_)
  refine qv (fun w hS => yOr rfl rfl (fun hB => (g124.1 hB))) <| qv (fun w hS => yAsg rfl) ?_
  clear hS; refine qnil (fun w hS => ?_)
  refine cwQ ?_
  refine cond rfl (fun c107 => ?_) (fun c107 => ?_)
  ·
   refine seq <| region <| vM <| vA <| vA <| vA <| nil <| cwQ ?_
   have hfin : checkB b = (3, (k : Int), 7) := by unfold checkB; rw [if_neg (by rw [c17]; decide), if_neg (fun h => h he1), if_neg (by rw [c65]; decide), if_neg c79, if_pos (by rw [hI, hdq, namedR, if_neg (by rw [c95]; decide), if_neg (by rw [c101]; decide), if_pos (by rw [bpolE_7 c107]; decide), bpolE_7 c107]; show (7 : Int) ≠ 0; decide), hI, hdq, namedR, if_neg (by rw [c95]; decide), if_neg (by rw [c101]; decide), if_pos (by rw [bpolE_7 c107]; decide), bpolE_7 c107]
   refine wp_ret (blockR (thenR (blockR (thenR (thenR (blockR (thenR ?_)))))))
   exact retV (res3 rfl (fstI hfin) (thd1I hfin) (thd2I hfin)) hS.ext
  refine skip <| cwQ <| seq <| region <| sv (yMove h7) <| sv (fa173_0 rfl) <| vL rfl isAgg9 hS rfl ?_
  refine smapset Value.string hS rfl rfl rfl runUnderlying197 (keyStr underlying9) ?_; clear hS; intro w hS
  refine nil <| cwQ <| region <| sv (yMove h8) <| sv (fa173_2 rfl) <| vL rfl isAgg3 hS rfl <| sv (yMax rfl rfl) <| vA <| nil <| cwQ <| region <| sv (yAddQ h90 rfl) <| vM ?_
  refine nil ?_
  exact ⟨_, _, rfl, ⟨k + 1, h1, h7, (rfl.trans (congrArg (Value.int .i64) (great_snoc hxq))), h88, h89, rfl, (by rw [namedR_take hxq, ← setM_seen _ _ (fun h => by rw [memB_iff.2 h] at c101; cases c101)]; exact hS.sub (.cons _ lrQ)), (by omega), (by rw [hI, hdq, namedR, if_neg (by rw [c95]; decide), if_neg (by rw [c101]; decide), if_neg (fun h => h (bpolE_0 c107)), namedR_take hxq]; rfl), rfl⟩, by omega⟩
 obtain rfl : k = b.pols.length := by omega
 rw [List.take_length] at hS
 have he2 : (namedR (·.name) (bpolE b) b.pols [] 0).2 = 0 := by rw [hI, List.drop_length]; rfl
 obtain ⟨hgr0, hgr1⟩ := great_bd c65 (namedR_ok _ _ _ he2).1
 have hgq : greatB b (b.pols.take b.pols.length) = greatB b b.pols := by rw [List.take_length]
 refine exit <| cwQ <| seq <| seq <| region <| sv (fa38_0 h1) <| vL rfl isAgg35 hS rfl ?_
 refine sv (yFromA (i := 1) rfl rfl underlying35 sizeOf171 (by simp only [outB_false] at c17; omega)) ?_
 refine sv (yLen rfl underlying35) <| vM <| nil <| cwQ <| block <| loop (fun f w zz => ∃ (k : Nat), f 1 = ptQ b1 ∧ f 8 = .int .i64 (greatB b b.pols) ∧ f 137 = .slice (fromA ar cr 1 2) (b.rows.length - 1) (cr - 1) ∧ f 138 = .int .i64 ((b.rows.length - 1 : Nat) : Int) ∧ f 139 = .int .i64 (k : Int) ∧ StX [] w0 w [blk b1 [.slice ar b.rows.length cr, .int .i64 b.leak, .int .i64 b.crest, .int .i64 b.over, .slice ap b.pols.length cp] 38] ∧ (k ≤ b.rows.length - 1) ∧ (∀ i, i < k → greatB b b.pols * (lvB b (i + 1) - lvB b i) ≤ vlB b (i + 1) - vlB b i) ∧ zz = b.rows.length - 1 - k) _ ⟨_, rfl, 0, h1, (h8.trans (congrArg (Value.int .i64) hgq)), rfl, rfl, rfl, (hS.sub (.cons _ lrQ)), (Nat.zero_le _), (fun i hi => absurd hi (Nat.not_lt_zero i)), rfl⟩ ?_
 clear hS
 rintro f w _ ⟨k, h1, h8, h137, h138, h139, hS, hk, hW, rfl⟩
 refine seq <| region <| sv (yLss h139 h138) <| nil <| cwQ <| seq ?_
 refine cond rfl ?_ ?_ <;> intro c140 <;> simp only [BS, ne_eq] at c140
 ·
  have hkl : k + 1 < b.rows.length := by omega
  obtain ⟨bx, ox, cx, hax, hlx, hcx, hRx, -⟩ := sl_at hsr (brow_get (b := b) (show k < b.rows.length by omega))
  obtain ⟨rfl, hxl, hxv⟩ := hRx
  obtain ⟨bz, oz, cz, haz, hlz, hcz, hRz, -⟩ := sl_at (hsr.drop (i := 1) (by omega)) (i := k) (x := brow b (k + 1)) (by rw [List.getElem?_drop, Nat.add_comm]; exact brow_get hkl)
  obtain ⟨rfl, hzl, hzv⟩ := hRz
  have hr1 := rowE_ok (hRW k (by omega))
  obtain ⟨hr2, hr3⟩ := rowE_ok (hRW (k + 1) hkl)
  replace hr3 := hr3 (by omega)
  rw [Nat.add_sub_cancel] at hr3
  have hmb := great_mul hgr0 hgr1 hr1.1 hr2 hr3
  unfold lvB vlB at hr1 hr2 hr3; unfold lvB at hmb
  refine skip <| cwQ <| seq <| block <| seq <| region <| sv (yMove h139) <| sv (yIxQ h137 haz h139 runUnderlying35 sizeOf171) <| sv (yLdA rfl isAgg171 sizeOf171 (hcz.ext hS.ext) rfl) ?_
  refine salloc hS zeroValue171 rfl fun b12 w hS => ?_
  refine vA ?_
  refine sS hS rfl sizeOf171 fun w hS => ?_
  refine nil <| cwQ <| seq <| region <| sv (fa38_0 h1) <| vL rfl isAgg35 hS rfl <| vM <| sv (yIxQ rfl hax rfl runUnderlying35 sizeOf171) <| sv (yLdA rfl isAgg171 sizeOf171 (hcx.ext hS.ext) rfl) ?_
  refine salloc hS zeroValue171 rfl fun b13 w hS => ?_
  refine sS hS rfl sizeOf171 fun w hS => ?_
  refine nil <| cwQ <| seq <| region <| sv (yMove h8) <| sv (fa171_0 rfl) <| vL rfl isAgg3 hS rfl <| sv (fa171_0 rfl) <| vL rfl isAgg3 hS rfl <| sv (ySubQ rfl rfl) <| sv (yMul rfl rfl ⟨by omega, by omega⟩) <| sv (fa171_1 rfl) <| vL rfl isAgg3 hS rfl ?_
  refine sv (fa171_1 rfl) <| vL rfl isAgg3 hS rfl <| sv (ySubQ rfl rfl) <| sv (yGtr rfl rfl) <| nil <| cwQ ?_
  refine cond rfl ?_ ?_ <;> intro c161 <;> simp only [BS, ne_eq] at c161
  ·
   refine seq <| region <| vA <| vA <| vA <| nil <| cwQ ?_
   have hfin : checkB b = (4, 0, 2) := by unfold checkB; rw [if_neg (by rw [c17]; decide), if_neg (fun h => h he1), if_neg (by rw [c65]; decide), if_neg c79, if_neg (fun h => h he2), if_pos (fun hw => by have := hw k (by omega); unfold lvB vlB at this; omega)]
   refine wp_ret (blockR (thenR (thenR (blockR (thenR ?_)))))
   exact retV (res3 rfl (fstI hfin) (thd1I hfin) (thd2I hfin)) hS.ext
  refine skip <| cwQ <| region <| sv (yAddQ h139 rfl) <| vM <| nil ?_
  exact ⟨_, _, rfl, ⟨k + 1, h1, h8, h137, h138, rfl, (hS.sub (.cons _ (.cons _ lrQ))), (by omega), (snoc hW (by unfold lvB vlB; omega)), rfl⟩, by omega⟩
 refine exit <| cwQ <| seq <| region <| vA <| vA <| vA <| nil <| cwQ ?_
 have hfin : checkB b = (0, 0, 0) := by unfold checkB; rw [if_neg (by rw [c17]; decide), if_neg (fun h => h he1), if_neg (by rw [c65]; decide), if_neg c79, if_neg (fun h => h he2), if_neg (fun hn => hn (fun i hi => hW i (by omega)))]
 refine wp_ret ?_
 exact retV (res3 rfl (fstI hfin) (thd1I hfin) (thd2I hfin)) hS.ext
theorem c_valid {b : Bas} {cs : List Value} {w0 : World} (h : RBas w0 cs b) : CV Tryz.prog 84 #[.agg cs.toArray] w0 (.int .i64 (checkB b).2.2) := by
 obtain ⟨rv, pv, rfl, hsr, hlk, hcr, hov, hsp⟩ := id h
 obtain ⟨ar, cr, rfl, hrcap, hrmx, hrel⟩ := id hsr
 obtain ⟨ap, cp, rfl, hpcap, hpmx, hpel⟩ := id hsp
 refine enQ func84 rfl ntmps84 rfl fun hS => ?_
 refine seq <| region ?_
 refine sbox hS rfl rfl fun b1 w hS => ?_
 refine vA <| nil <| cwQ <| seq <| region <| sv (yLdBA rfl isAgg38 sizeOf38 (hS.at _) rfl rfl) ?_
 refine scV hS call72 e1 (c_CheckB (h.ext hS.ext)) fun w hS => ?_
 refine vM <| sv (yExt rfl rfl) <| sv (yExt rfl rfl) <| sv (yExt rfl rfl) <| vA <| vA <| vA <| nil <| cwQ <| seq <| region <| vM <| vA ?_
 refine nil <| cwQ <| wp_ret ?_
 exact rvQ hS
theorem c_CheckState {b : Bas} {cs : List Value} {s : BSt} {qs : List Value} {w0 : World} (h : RBas w0 cs b) (h2 : RBst w0 qs s) : CV Tryz.prog 121 #[.agg cs.toArray, .agg qs.toArray] w0 (.int .i64 (stB b s)) := by
 obtain ⟨rv, pv, rfl, hsr, hlk, hcr, hov, hsp⟩ := id h
 obtain ⟨ar, cr, rfl, hrcap, hrmx, hrel⟩ := id hsr
 obtain ⟨ap, cp, rfl, hpcap, hpmx, hpel⟩ := id hsp
 obtain ⟨fv, rfl, hsv, hsf, hsm⟩ := id h2
 obtain ⟨af, cf, rfl, hfcap, hfmx, hfel⟩ := id hsf
 refine enQ func121 rfl ntmps121 rfl fun hS => ?_
 refine seq <| region ?_
 refine sbox hS rfl rfl fun b2 w hS => ?_
 refine sbox hS rfl rfl fun b3 w hS => ?_
 refine vA <| nil <| cwQ <| seq <| region <| sv (yLdBA rfl isAgg38 sizeOf38 (hS.at _) rfl rfl) ?_
 refine scV hS call84 e1 (c_valid (h.ext hS.ext)) fun w hS => ?_
 refine vA <| nil <| cwQ <| seq <| block <| seq <| region <| vM <| sv (yNeq rfl rfl) <| vA <| nil <| cwQ ?_
 refine cond rfl ?_ ?_ <;> intro c10 <;> simp only [BS, ne_eq] at c10
 ·
  refine seq <| region <| vM <| vA <| nil <| cwQ ?_
  refine wp_ret (blockR (thenR ?_))
  exact retV (res1 rfl (eqI (by unfold stB; rw [if_pos c10]))) hS.ext
 refine seq <| region <| sv (fa183_1 rfl) <| vL rfl isAgg30 hS rfl <| sv (yLen rfl underlying30) <| sv (fa38_4 rfl) <| vL rfl isAgg36 hS rfl <| sv (yLen rfl underlying36) <| sv (yNeq rfl rfl) <| vA <| nil <| cwQ ?_
 refine cond rfl ?_ ?_ <;> intro c14 <;> simp only [BS, ne_eq] at c14
 ·
  refine seq <| region <| vA <| nil <| cwQ ?_
  refine wp_ret (blockR (thenR ?_))
  exact retV (res1 rfl (eqI (by unfold stB; rw [if_neg (fun k => k c10), if_pos c14]))) hS.ext
 have hbo := check_ok c10
 have hrl := hbo.len
 obtain ⟨br0, or0, cr0, har0, hlr0, hcr0, hRr0, -⟩ := sl_at hsr (brow_get (b := b) (show 0 < b.rows.length by omega))
 obtain ⟨rfl, hr01, hr02⟩ := hRr0
 refine seq <| region_draw mixed (by kernel_rfl) hS <| qv (fun w hS => fa183_0 rfl) <| qv (fun w hS => yLdB rfl isAgg3 (hS.at _) rfl) <| qv (fun w hS => fa38_0 rfl) <| qv (fun w hS => yLdB rfl isAgg35 (hS.at _) rfl) <| qv (fun w hS => yIxQ rfl har0 rfl runUnderlying35 sizeOf171) <| qv (fun w hS => fa171_1 rfl) <| qv (fun w hS => yLd rfl isAgg3 ((hcr0.ext hS.ext).at (j := 1) rfl)) <| qcall call85 e3 (fun w hS => c_bout) <| qv (fun w hS => yAsg rfl) ?_
 clear hS; refine qnil (fun w hS => ?_)
 refine cwQ ?_
 refine cond rfl (fun c22 => ?_) (fun c22 => ?_)
 ·
  refine seq <| region <| vA <| nil <| cwQ ?_
  refine wp_ret (blockR (thenR ?_))
  exact retV (res1 rfl (eqI (by unfold stB; rw [if_neg (fun k => k c10), if_neg (fun k => k c14), if_pos (show outB s.volume (vlB b 0) 1000000000 = true from c22)]))) hS.ext
 refine skip <| cwQ <| seq <| seq <| region <| sv (fa183_1 rfl) <| vL rfl isAgg30 hS rfl <| sv (yLen rfl underlying30) <| vM <| nil <| cwQ <| block <| loop (fun f w zz => ∃ (k : Nat), f 2 = ptQ b2 ∧ f 3 = ptQ b3 ∧ f 32 = .slice af s.filled.length cf ∧ f 33 = .int .i64 (s.filled.length : Int) ∧ f 34 = .int .i64 (k : Int) ∧ StX [] w0 w [blk b3 [.int .i64 s.volume, .slice af s.filled.length cf] 183, blk b2 [.slice ar b.rows.length cr, .int .i64 b.leak, .int .i64 b.crest, .int .i64 b.over, .slice ap b.pols.length cp] 38] ∧ (k ≤ s.filled.length) ∧ ((List.range k).any (filBad b s.filled) = false) ∧ zz = s.filled.length - k) _ ⟨_, rfl, 0, rfl, rfl, rfl, rfl, rfl, hS, (Nat.zero_le _), (rfl), rfl⟩ ?_
 clear hS
 rintro f w _ ⟨k, h2, h3, h32, h33, h34, hS, hk, hN, rfl⟩
 refine seq <| region <| sv (yLss h34 h33) <| nil <| cwQ <| seq ?_
 refine cond rfl ?_ ?_ <;> intro c35 <;> simp only [BS, ne_eq] at c35
 ·
  obtain ⟨bx, ox, cx, hax, hlx, hcx, hRx, -⟩ := sl_at hsf (flB_get (l := s.filled) (show k < s.filled.length by omega))
  obtain ⟨rfl, hxi⟩ := hRx
  obtain ⟨bp, op, csp, hap, hlp, hcsp, hRp, -⟩ := sl_at hsp (plB_get (b := b) (show k < b.pols.length by omega))
  obtain ⟨rfl, -⟩ := hRp
  have hbad : filBad b s.filled k = outB (flB s.filled k) 0 (plB b k).room := rfl
  refine skip <| cwQ <| seq <| block <| seq <| region <| sv (yMove h34) <| sv (yIxQ h32 hax h34 runUnderlying30 sizeOf3) <| sv (yLd rfl isAgg3 ((hcx.ext hS.ext).one)) <| vA <| vA <| nil <| cwQ ?_
  refine seq <| region <| vM <| sv (fa38_4 h2) <| vL rfl isAgg36 hS rfl <| vM <| sv (yIxQ rfl hap rfl runUnderlying36 sizeOf173) <| sv (fa173_3 rfl) <| sv (yLd rfl isAgg3 ((hcsp.ext hS.ext).at (j := 3) rfl)) ?_
  refine scV hS call85 e3 c_bout fun w hS => ?_
  refine nil <| cwQ ?_
  refine cond rfl (fun c46 => ?_) (fun c46 => ?_)
  ·
   refine seq <| region <| vA <| nil <| cwQ ?_
   refine wp_ret (blockR (thenR (thenR (blockR (thenR ?_)))))
   exact retV (res1 rfl (eqI (by unfold stB; rw [if_neg (fun k => k c10), if_neg (fun k => k c14), if_neg (by rw [show outB s.volume (vlB b 0) 1000000000 = false from c22]; decide), if_pos (List.any_eq_true.2 ⟨k, List.mem_range.2 (by omega), hbad.trans c46⟩)]))) hS.ext
  refine skip <| cwQ <| region <| sv (yAddQ h34 rfl) <| vM <| nil ?_
  exact ⟨_, _, rfl, ⟨k + 1, h2, h3, h32, h33, rfl, hS, (by omega), (by rw [List.range_succ, List.any_append, hN, List.any_cons, List.any_nil, hbad, c46]; rfl), rfl⟩, by omega⟩
 obtain rfl : k = s.filled.length := by omega
 refine exit <| cwQ <| seq <| region <| vA <| nil <| cwQ <| wp_ret ?_
 exact retV (res1 rfl (eqI (by unfold stB; rw [if_neg (fun k => k c10), if_neg (fun k => k c14), if_neg (by rw [show outB s.volume (vlB b 0) 1000000000 = false from c22]; decide), if_neg (by rw [hN]; decide)]))) hS.ext
theorem c_exact1 {x : BRow} {t : Int} {w0 : World} : CV Tryz.prog 124 #[.agg (browC x).toArray, .int .i64 t] w0 (.int .i64 (cmpI x.volume t)) := by
 refine enQ func124 rfl ntmps124 rfl fun hS => ?_
 refine seq <| region ?_
 refine sbox hS rfl rfl fun b2 w hS => ?_
 refine vA <| nil <| cwQ <| seq <| region <| sv (fa171_1 rfl) <| vL rfl isAgg3 hS rfl <| vM ?_
 refine scV hS call125 e2 c_Compare fun w hS => ?_
 refine vA <| nil <| cwQ <| wp_ret ?_
 exact rvQ hS
theorem c_SearchRow {b : Bas} {v : Value} {t : Int} {w0 : World} (hsl : Sl w0 2 RBrow v b.rows) (hok : BasOk b) : CE Tryz.prog 123 #[v, .int .i64 t, .func (.func 124) #[] #[]] w0 (fun v w' => ∃ i is, v = .tuple #[.int .i64 ((i : Nat) : Int), .bool is] ∧ SrchB b t i is ∧ Ext w0 w') := by
 have hrl := hok.len
 obtain ⟨a, cap, rfl, hcap, hmx, hel⟩ := id hsl
 refine enQ func123 rfl ntmps123 rfl fun hS => ?_
 refine seq <| region <| vA <| vA <| nil <| cwQ <| seq <| region <| vM <| sv (yLen rfl underlying35) <| vA <| nil <| cwQ ?_
 refine seq <| region <| vM <| vA <| vA <| nil <| cwQ <| seq <| block <| loop (fun f w zz => ∃ (i j : Nat), f 0 = .slice a b.rows.length cap ∧ f 1 = .int .i64 t ∧ f 2 = .func (.func 124) #[] #[] ∧ f 8 = .int .i64 (b.rows.length : Int) ∧ f 9 = .int .i64 (i : Int) ∧ f 10 = .int .i64 (j : Int) ∧ StX [] w0 w [] ∧ (i ≤ j ∧ j ≤ b.rows.length) ∧ (∀ k, k < i → vlB b k < t) ∧ (∀ k, j ≤ k → k < b.rows.length → t ≤ vlB b k) ∧ zz = j - i) _ ⟨_, rfl, 0, b.rows.length, rfl, rfl, rfl, rfl, rfl, rfl, hS, (⟨Nat.zero_le _, Nat.le_refl _⟩), (fun k h => absurd h (Nat.not_lt_zero k)), (fun k h h2 => by omega), rfl⟩ ?_
 clear hS
 rintro f w _ ⟨i, j, h0, h1, h2, h8, h9, h10, hS, hij, hlo, hhi, rfl⟩
 refine seq <| seq <| region <| sv (yMove h9) <| sv (yMove h10) <| sv (yLss rfl rfl) <| nil <| cwQ ?_
 refine cond rfl ?_ ?_ <;> intro c17 <;> simp only [BS, ne_eq] at c17
 ·
  refine skip <| cwQ <| block <| seq <| region <| sv (yMove h9) <| sv (yMove h10) <| sv (yAddQ rfl rfl) <| sv (yToU rfl underlying3 underlying224 ⟨by omega, by omega⟩) <| sv (yShr1 rfl rfl) <| sv (Y.to (yToI rfl underlying224 underlying3 ⟨by omega, by omega⟩) (show Value.int .i64 (((i : Int) + (j : Int)) / 2) = .int .i64 (((i + j) / 2 : Nat) : Int) by congr 1)) <| vA <| nil ?_
  refine cwQ <| seq <| region ?_
  obtain ⟨bx, ox, cx, hax, hlx, hcx, hRx, -⟩ := sl_at hsl (brow_get (b := b) (show (i + j) / 2 < b.rows.length by omega))
  obtain ⟨rfl, -⟩ := hRx
  refine sv (yMove h2) <| sv (yMove h0) <| vM <| sv (yIxQ rfl hax rfl runUnderlying35 sizeOf171) <| sv (yLdA rfl isAgg171 sizeOf171 (hcx.ext hS.ext) rfl) <| sv (yMove h1) ?_
  refine scallf rfl call124 e2 c_exact1 ?_
  rintro _ w ⟨rfl, hE⟩; replace hS := hS.step hE; clear hE
  refine sv (yLss rfl rfl) <| nil <| cwQ ?_
  refine cond rfl (fun c31 => ?_) (fun c31 => ?_)
  ·
   simp only [BS, ne_eq, cmpI_lt0] at c31
   refine region <| vM <| sv (yAddQ rfl rfl) <| vA <| nil ?_
   exact ⟨_, _, rfl, ⟨(i + j) / 2 + 1, j, h0, h1, h2, h8, rfl, h10, hS, (⟨by omega, by omega⟩), (fun k hk => by have := vl_mono hok (show k ≤ (i + j) / 2 by omega) (by omega); unfold vlB at *; omega), (hhi), rfl⟩, by omega⟩
  simp only [BS, ne_eq, cmpI_lt0] at c31
  refine region <| vM <| vA <| nil ?_
  exact ⟨_, _, rfl, ⟨i, (i + j) / 2, h0, h1, h2, h8, h9, rfl, hS, (⟨by omega, by omega⟩), (hlo), (fun k hk hkl => by have := vl_mono hok hk hkl; unfold vlB at *; omega), rfl⟩, by omega⟩
 refine exit <| cwQ <| seq <| region ?_
 obtain rfl : i = j := by omega
 obtain ⟨bx, ox, hk⟩ : ∃ bx ox, i < b.rows.length → a = some ⟨bx, ox, none⟩ ∧ Cells w0 bx (ox + i * 2) (browC (brow b i)) := by
  by_cases hi : i < b.rows.length
  ·
   obtain ⟨bx, ox, cs, ha, hlen, hcs, hR, -⟩ := sl_at hsl (brow_get (b := b) hi)
   exact ⟨bx, ox, fun _ => ⟨ha, by rw [← hR.1]; exact hcs⟩⟩
  exact ⟨0, 0, fun h => absurd h hi⟩
 refine sv (yMove h9) <| sv (yMove h9) <| sv (yMove h8) <| sv (yLss rfl rfl) <| vM ?_
 refine sg rfl rfl rfl (fun g => (yMove h2)) (fun v40 g40 => ?_)
 refine sg rfl rfl rfl (fun g => (yMove h0)) (fun v41 g41 => ?_)
 refine sg rfl rfl rfl (fun g => (yMove h9)) (fun v42 g42 => ?_)
 refine sg rfl rfl rfl (fun g => (yIxa (g41.1 g) (hk (by have := of_decide_eq_true g; omega)).1 (g42.1 g) runUnderlying35 sizeOf171 (by omega) (of_decide_eq_true g))) (fun v43 g43 => ?_)
 refine sg rfl rfl rfl (fun g => (yLdA (g43.1 g) isAgg171 sizeOf171 ((hk (by have := of_decide_eq_true g; omega)).2.ext hS.ext) rfl)) (fun v44 g44 => ?_)
 refine sg rfl rfl rfl (fun g => (yMove h1)) (fun v45 g45 => ?_)
 refine sgcf hS rfl rfl rfl (fun g => (g40.1 g)) call124 (fun g => (.cons (g44.1 g) (.cons (g45.1 g) .nil))) (fun g => c_exact1) ?_; clear hS; intro v46 w hS g46
 refine sg rfl rfl rfl (fun g => (yEql (g46.1 g) rfl)) (fun v47 g47 => ?_)
 refine sv (yAnd rfl (fun hB => (g47.1 hB)) rfl) <| vA <| vA <| nil <| cwQ <| wp_ret <| retQ (res2 rfl rfl rfl) ?_
 refine ⟨i, _, rfl, ⟨hij.2, hlo, hhi, ?_⟩, hS.ext⟩
 simp only [Bool.and_eq_true, decide_eq_true_eq, cmpI_eq0]
 exact ⟨fun ⟨h1, h2⟩ => ⟨by omega, h2⟩, fun ⟨h1, h2⟩ => ⟨by omega, h2⟩⟩
theorem c_exact {b : Bas} {cs : List Value} {v : Int} {w0 : World} (h : RBas w0 cs b) (hok : BasOk b) (hv : vlB b 0 ≤ v ∧ v ≤ 1000000000) : CV Tryz.prog 86 #[.agg cs.toArray, .int .i64 v] w0 (.agg (.int .i64 (exN b v) :: .int .i64 (exD b v) :: []).toArray) := by
 obtain ⟨rv, pv, rfl, hsr, hlk, hcr, hov, hsp⟩ := id h
 obtain ⟨ar, cr, rfl, hrcap, hrmx, hrel⟩ := id hsr
 obtain ⟨ap, cp, rfl, hpcap, hpmx, hpel⟩ := id hsp
 have hrl := hok.len
 have hil := idx_lt hok v
 obtain ⟨p1, p2, p3⟩ := ex_parts hok hv.1 hv.2
 have p4 := exD_bd hok v
 have p5 := dl_bd hok v
 have p6 := exN_bd hok hv.1 hv.2
 unfold vlB at p1; unfold lvB at p2 p5; unfold lvB vlB at p3
 have p7 : exD b v = (brow b (idxB b v + 1)).volume - (brow b (idxB b v)).volume := rfl
 rw [p7] at p2
 obtain ⟨bx, ox, cx, hax, hlx, hcx, hRx, -⟩ := sl_at hsr (brow_get (b := b) (show idxB b v < b.rows.length by omega))
 obtain ⟨rfl, hx1, hx2⟩ := hRx
 obtain ⟨bz, oz, cz, haz, hlz, hcz, hRz, -⟩ := sl_at hsr (brow_get (b := b) hil)
 obtain ⟨rfl, hz1, hz2⟩ := hRz
 refine enQ func86 rfl ntmps86 rfl fun hS => ?_
 refine seq <| region ?_
 refine sbox hS rfl rfl fun b2 w hS => ?_
 refine salloc hS zeroValue192 rfl fun b4 w hS => ?_
 refine nil <| cwQ <| seq <| region <| sv (fa38_0 rfl) <| vL rfl isAgg35 hS rfl <| vM ?_
 refine scall call123 e3 (c_SearchRow (hsr.ext RBrow.stays hS.ext) hok) ?_
 rintro _ w ⟨i, is, rfl, hse, hE⟩; replace hS := hS.step hE; clear hE
 have hsi := hse.1
 have hsx := srch_idx hok hse hv.1
 refine vM <| sv (yExt rfl rfl) <| sv (yExt rfl rfl) <| vA <| vA <| nil <| cwQ ?_
 refine seqJ (n := 60) (fun f w => ∃ (q : Int), f 1 = .int .i64 v ∧ f 2 = ptQ b2 ∧ f 4 = ptQ b4 ∧ f 5 = .int .i64 q ∧ StX [] w0 w [blk b4 [.int .i64 0, .int .i64 0] 192, blk b2 [.slice ar b.rows.length cr, .int .i64 b.leak, .int .i64 b.crest, .int .i64 b.over, .slice ap b.pols.length cp] 38] ∧ (min q ((b.rows.length : Int) - 2) = (idxB b v : Int)) ∧ (-1 ≤ q ∧ q ≤ 12) ∧ True) ?_ ?_
 ·
  refine seq <| region <| vM <| sv (yNot rfl) <| nil <| cwQ ?_
  refine cond rfl (fun c18 => ?_) (fun c18 => ?_)
  ·
   refine region <| vM <| sv (ySubQ rfl rfl) <| vA <| nil ?_
   exact ⟨_, rfl, (i : Int) - 1, rfl, rfl, rfl, rfl, hS, (by rw [if_neg (by revert c18; cases is <;> simp)] at hsx; omega), (by omega), trivial⟩
  refine skip ?_
  exact ⟨_, rfl, (i : Int), rfl, rfl, rfl, rfl, hS, (by rw [if_pos (by revert c18; cases is <;> simp)] at hsx; omega), (by omega), trivial⟩
 clear hS; rintro f w ⟨q, h1, h2, h4, h5, hS, hq, hqb, -⟩
 refine seq <| region <| sv (yMove h5) <| sv (fa38_0 h2) <| vL rfl isAgg35 hS rfl <| sv (yLen rfl underlying35) <| sv (ySubQ rfl rfl) <| sv (Y.to (yMin rfl rfl) (congrArg (Value.int .i64) hq)) <| vA <| nil <| cwQ <| seq <| region_mix (fun w => StX [] w0 w (blk b4 [.int .i64 0, .int .i64 0] 192 :: blk b2 [.slice ar b.rows.length cr, .int .i64 b.leak, .int .i64 b.crest, .int .i64 b.over, .slice ap b.pols.length cp] 38 :: [])) 15 mixed hS ?_
 clear hS; intro w hS
 refine fsQ 0 rfl (fun w hS => fa38_0 h2) <| fsQ 1 rfl (fun w hS => yLdB rfl isAgg35 (hS.at _) rfl) <| fsQ 2 rfl (fun w hS => yMove rfl) <| fsQ 3 rfl (fun w hS => yIxQ rfl hax rfl runUnderlying35 sizeOf171) <| fsQ 4 rfl (fun w hS => yLdA rfl isAgg171 sizeOf171 (hcx.ext hS.ext) rfl) <| fsQ 5 rfl (fun w hS => fa38_0 h2) <| fsQ 6 rfl (fun w hS => yLdB rfl isAgg35 (hS.at _) rfl) <| fsQ 7 rfl (fun w hS => yMove rfl) <| fsQ 8 rfl (fun w hS => yAddQ rfl rfl) <| fsQ 9 rfl (fun w hS => yIxQ rfl haz rfl runUnderlying35 sizeOf171) <| fsQ 10 rfl (fun w hS => yLdA rfl isAgg171 sizeOf171 (hcz.ext hS.ext) rfl) <| awQ ?_
 refine a_step (i := 11) (is := [12]) (by kernel_rfl) ⟨?_, ?_, trivial⟩
 ·
  refine ⟨_, rfl, ?_⟩
  refine salloc hS zeroValue171 rfl fun b7 w hS => ?_
  refine nil <| kpQ <| awQ <| awQ <| a1Q 12 rfl ?_
  refine salloc hS zeroValue171 rfl fun b8 w hS => ?_
  refine nil <| kpQ <| awQ <| awQ <| a1Q 13 rfl ?_
  refine sS hS rfl sizeOf171 fun w hS => ?_
  refine nil <| kpQ <| awQ <| awQ <| a1Q 14 rfl ?_
  refine sS hS rfl sizeOf171 fun w hS => ?_
  refine nil <| kpQ <| awQ <| a_end (by kernel_rfl) <| cwQ <| seq <| region <| sv (fa171_1 rfl) <| vL rfl isAgg3 hS rfl <| sv (fa171_1 rfl) <| vL rfl isAgg3 hS rfl <| sv (ySubQ rfl rfl) <| vA ?_
  refine nil <| cwQ <| seq <| region <| sv (fa171_0 rfl) <| vL rfl isAgg3 hS rfl <| vM <| sv (yMul rfl rfl ⟨by omega, by omega⟩) <| sv (yMove h1) <| sv (fa171_1 rfl) <| vL rfl isAgg3 hS rfl <| sv (ySubQ rfl rfl) <| sv (fa171_0 rfl) ?_
  refine vL rfl isAgg3 hS rfl <| sv (fa171_0 rfl) <| vL rfl isAgg3 hS rfl <| sv (ySubQ rfl rfl) <| sv (yMul rfl rfl ⟨by omega, by omega⟩) <| sv (yAddQ rfl rfl) <| vM <| sv (yBuild zeroValue192 rfl pl192 (.cons rfl rfl (.cons rfl rfl .nil)) rfl) ?_
  refine sS hS h4 sizeOf192 fun w hS => ?_
  refine nil <| cwQ <| wp_ret ?_
  exact retV (resV1 rfl (rc h4 isAgg192 sizeOf192 (hS.at _) rfl rfl)) hS.ext
 refine ⟨_, rfl, ?_⟩
 refine salloc hS zeroValue171 rfl fun b8 w hS => ?_
 refine nil <| kpQ <| awQ <| awQ <| a1Q 11 rfl ?_
 refine salloc hS zeroValue171 rfl fun b7 w hS => ?_
 refine nil <| kpQ <| awQ <| awQ <| a1Q 13 rfl ?_
 refine sS hS rfl sizeOf171 fun w hS => ?_
 refine nil <| kpQ <| awQ <| awQ <| a1Q 14 rfl ?_
 refine sS hS rfl sizeOf171 fun w hS => ?_
 refine nil <| kpQ <| awQ <| a_end (by kernel_rfl) <| cwQ <| seq <| region <| sv (fa171_1 rfl) <| vL rfl isAgg3 hS rfl <| sv (fa171_1 rfl) <| vL rfl isAgg3 hS rfl <| sv (ySubQ rfl rfl) <| vA ?_
 refine nil <| cwQ <| seq <| region <| sv (fa171_0 rfl) <| vL rfl isAgg3 hS rfl <| vM <| sv (yMul rfl rfl ⟨by omega, by omega⟩) <| sv (yMove h1) <| sv (fa171_1 rfl) <| vL rfl isAgg3 hS rfl <| sv (ySubQ rfl rfl) <| sv (fa171_0 rfl) ?_
 refine vL rfl isAgg3 hS rfl <| sv (fa171_0 rfl) <| vL rfl isAgg3 hS rfl <| sv (ySubQ rfl rfl) <| sv (yMul rfl rfl ⟨by omega, by omega⟩) <| sv (yAddQ rfl rfl) <| vM <| sv (yBuild zeroValue192 rfl pl192 (.cons rfl rfl (.cons rfl rfl .nil)) rfl) ?_
 refine sS hS h4 sizeOf192 fun w hS => ?_
 refine nil <| cwQ <| wp_ret ?_
 exact retV (resV1 rfl (rc h4 isAgg192 sizeOf192 (hS.at _) rfl rfl)) hS.ext
theorem c_bfloor {a c : Int} {w0 : World} (hc : 0 < c) (ha : -9223372036854775000 ≤ a ∧ a ≤ 9223372036854775000) : CV Tryz.prog 200 #[.int .i64 a, .int .i64 c] w0 (.int .i64 (a / c)) := by
 obtain ⟨⟨f0, f1⟩, f2, f3⟩ := btdiv_floor a hc
 have f4 := Int.natAbs_tdiv_le_natAbs a c
 refine enQ func200 rfl ntmps200 rfl fun hS => ?_
 refine seq <| region <| vA <| nil <| cwQ <| seq <| region <| vM <| vM <| sv (yQuo rfl rfl hc ⟨by omega, by omega⟩) <| vA <| nil <| cwQ ?_
 refine seq <| seq <| region <| vM <| vM <| sv (yMul rfl rfl ⟨by omega, by omega⟩) <| vM <| sv (yGtr rfl rfl) <| nil <| cwQ ?_
 refine cond rfl ?_ ?_ <;> intro c13 <;> simp only [BS, ne_eq] at c13
 ·
  refine region <| vM <| sv (ySubQ rfl rfl) <| vA <| nil <| cwQ <| seq <| region <| vM <| vA <| nil <| cwQ <| wp_ret ?_
  exact retV (res1 rfl (eqI (f2 (by omega)))) hS.ext
 refine skip <| cwQ <| seq <| region <| vM <| vA <| nil <| cwQ <| wp_ret ?_
 exact retV (res1 rfl (eqI (f3 (by omega)))) hS.ext
theorem c_minus {rn rd : Int} {w0 : World} (h1 : -9223372036854775000 ≤ rn ∧ rn ≤ 9223372036854775000) : CV Tryz.prog 157 #[.agg (.int .i64 rn :: .int .i64 rd :: []).toArray] w0 (.agg (.int .i64 (-rn) :: .int .i64 rd :: []).toArray) := by
 refine enQ func157 rfl ntmps157 rfl fun hS => ?_
 refine seq <| region ?_
 refine sbox hS rfl rfl fun b1 w hS => ?_
 refine salloc hS zeroValue192 rfl fun b2 w hS => ?_
 refine nil <| cwQ <| seq <| region <| sv (fa192_0 rfl) <| vL rfl isAgg3 hS rfl <| sv (yNeg rfl ⟨by omega, by omega⟩) <| sv (fa192_1 rfl) <| vL rfl isAgg3 hS rfl <| sv (yBuild zeroValue192 rfl pl192 (.cons rfl rfl (.cons rfl rfl .nil)) rfl) ?_
 refine sS hS rfl sizeOf192 fun w hS => ?_
 refine nil <| cwQ <| wp_ret ?_
 exact retV (resV1 rfl (rc rfl isAgg192 sizeOf192 (hS.at _) rfl rfl)) hS.ext
theorem c_above {rn rd : Int} {l : Int} {w0 : World} (h1 : -9223372036854775000 ≤ l * rd ∧ l * rd ≤ 9223372036854775000) : CV Tryz.prog 197 #[.agg (.int .i64 rn :: .int .i64 rd :: []).toArray, .int .i64 l] w0 (.bool (decide (l * rd < rn))) := by
 refine enQ func197 rfl ntmps197 rfl fun hS => ?_
 refine seq <| region ?_
 refine sbox hS rfl rfl fun b2 w hS => ?_
 refine vA <| nil <| cwQ <| seq <| region <| sv (fa192_0 rfl) <| vL rfl isAgg3 hS rfl <| vM <| sv (fa192_1 rfl) <| vL rfl isAgg3 hS rfl <| sv (yMul rfl rfl ⟨by omega, by omega⟩) <| sv (yGtr rfl rfl) <| vA ?_
 refine nil <| cwQ <| wp_ret ?_
 exact rvQ hS
theorem c_over {rn rd : Int} {l r : Int} {w0 : World} (h1 : -9223372036854775000 ≤ l * rd ∧ l * rd ≤ 9223372036854775000) (h2 : -9223372036854775000 ≤ rn - l * rd ∧ rn - l * rd ≤ 9223372036854775000) (h3 : -9223372036854775000 ≤ r * (rn - l * rd) ∧ r * (rn - l * rd) ≤ 9223372036854775000) (hd : 0 < rd) : CV Tryz.prog 198 #[.agg (.int .i64 rn :: .int .i64 rd :: []).toArray, .int .i64 l, .int .i64 r] w0 (.int .i64 (r * (rn - l * rd) / rd)) := by
 refine enQ func198 rfl ntmps198 rfl fun hS => ?_
 refine seq <| region ?_
 refine sbox hS rfl rfl fun b3 w hS => ?_
 refine vA <| nil <| cwQ <| seq <| region <| vM <| sv (fa192_0 rfl) <| vL rfl isAgg3 hS rfl <| vM <| sv (fa192_1 rfl) <| vL rfl isAgg3 hS rfl <| sv (yMul rfl rfl ⟨by omega, by omega⟩) <| sv (ySubQ rfl rfl) ?_
 refine sv (yMul rfl rfl ⟨by omega, by omega⟩) <| sv (fa192_1 rfl) <| vL rfl isAgg3 hS rfl ?_
 refine scV hS call200 e2 (c_bfloor hd h3) fun w hS => ?_
 refine vA <| nil <| cwQ <| wp_ret ?_
 exact rvQ hS
theorem m_above (v : Value) : Mth Tryz.prog 192 "barrage/basin.above" 197 v := fun w => by kernel_rfl
theorem m_over (v : Value) : Mth Tryz.prog 192 "barrage/basin.over" 198 v := fun w => by kernel_rfl
theorem na_over (v : Value) (w : World) : (nilAhead (Tryz.prog.types.size + Made.depth) 192 v "barrage/basin.over").run Tryz.prog w = .ok (some false) w := by kernel_rfl
theorem c_spill {b : Bas} {t : BTk} {vol R O K U : Int} {ar ap : Option Addr} {cr cp bw : Nat} {fv tv : Value} {w0 : World} (hw : w0.heap[bw]? = some (.cells [.slice ar b.rows.length cr, .int .i64 b.leak, .int .i64 b.crest, .int .i64 b.over, .slice ap b.pols.length cp, .int .i64 vol, fv, .int .i64 t.outer, .int .i64 t.river, .int .i64 t.out, .int .i64 R, .int .i64 O, .int .i64 K, .int .i64 U, tv].toArray 272 (0, 0))) : CV Tryz.prog 156 #[ptQ bw] w0 (.bool (decide (1000000000 < vol))) := by
 refine enQ func156 rfl ntmps156 rfl fun hS => ?_
 refine seq <| region <| vA <| nil <| cwQ <| seq <| region <| vM <| sv (yNil rfl) <| sv (fa272_1 rfl) <| sv (fa183_0 rfl) <| sv (yLdB rfl isAgg3 (hS.ext.get hw) rfl) <| sv (yGtr rfl rfl) ?_
 refine vA <| nil <| cwQ <| wp_ret ?_
 exact rvQ hS
theorem c_least {b : Bas} {t : BTk} {vol R O K U : Int} {ar ap : Option Addr} {cr cp bw : Nat} {fv tv : Value} {w0 : World} (hw : w0.heap[bw]? = some (.cells [.slice ar b.rows.length cr, .int .i64 b.leak, .int .i64 b.crest, .int .i64 b.over, .slice ap b.pols.length cp, .int .i64 vol, fv, .int .i64 t.outer, .int .i64 t.river, .int .i64 t.out, .int .i64 R, .int .i64 O, .int .i64 K, .int .i64 U, tv].toArray 272 (0, 0))) (hok : BasOk b) (hsr : Sl w0 2 RBrow (.slice ar b.rows.length cr) b.rows) : CV Tryz.prog 158 #[ptQ bw] w0 (.int .i64 (vlB b 0)) := by
 have hrl := hok.len
 obtain ⟨br0, or0, cr0, har0, hlr0, hcr0, hRr0, -⟩ := sl_at hsr (brow_get (b := b) (show 0 < b.rows.length by omega))
 obtain ⟨rfl, hr01, hr02⟩ := hRr0
 refine enQ func158 rfl ntmps158 rfl fun hS => ?_
 refine seq <| region <| vA <| nil <| cwQ <| seq <| region <| vM <| sv (yNil rfl) <| sv (fa272_0 rfl) <| sv (fa38_0 rfl) <| sv (yLdB rfl isAgg35 (hS.ext.get hw) rfl) <| sv (yIxQ rfl har0 rfl runUnderlying35 sizeOf171) ?_
 refine sv (fa171_1 rfl) <| sv (yLd rfl isAgg3 ((hcr0.ext hS.ext).at (j := 1) rfl)) <| vA <| nil <| cwQ <| wp_ret ?_
 exact rvQ hS
theorem c_river {b : Bas} {t : BTk} {vol R O K U : Int} {ar ap : Option Addr} {cr cp bw : Nat} {fv tv : Value} {w0 w : World} {L9 : List Bx.Item} (hS : StX [] w0 w (blk bw [.slice ar b.rows.length cr, .int .i64 b.leak, .int .i64 b.crest, .int .i64 b.over, .slice ap b.pols.length cp, .int .i64 (vol), fv, .int .i64 t.outer, .int .i64 t.river, .int .i64 t.out, .int .i64 (R), .int .i64 (O), .int .i64 (K), .int .i64 (U), tv] 272 :: L9)) (h1 : -10000000000 ≤ vol ∧ vol ≤ 10000000000) (h2 : TkOk t) : CE Tryz.prog 145 #[ptQ bw] w (fun u w' => u = .bool (!decide (1000000000 < vol + t.river)) ∧ StX [] w0 w' (blk bw [.slice ar b.rows.length cr, .int .i64 b.leak, .int .i64 b.crest, .int .i64 b.over, .slice ap b.pols.length cp, .int .i64 (vol + t.river), fv, .int .i64 t.outer, .int .i64 t.river, .int .i64 t.out, .int .i64 (t.river), .int .i64 (O), .int .i64 (K), .int .i64 (U), tv] 272 :: L9)) := by
 obtain ⟨q1, q2, q3⟩ := h2
 refine enter func145 rfl ntmps145 rfl ?_
 skip
 refine seq <| region <| vA <| nil <| cwQ <| seq <| region <| vM <| vM <| sv (yNil rfl) <| sv (fa272_2 rfl) <| sv (fa189_1 rfl) <| vL rfl isAgg3 hS rfl ?_
 refine sv (yNil rfl) <| sv (fa272_3 rfl) <| sv (fa185_0 rfl) ?_
 refine sS hS rfl sizeOf3 fun w hS => ?_
 refine nil <| cwQ <| seq <| region_tail mixed 14 (by kernel_rfl) hS <| qv (fun w hS => yMove rfl) <| qv (fun w hS => yNil rfl) <| qv (fun w hS => fa272_1 rfl) <| qv (fun w hS => fa183_0 rfl) <| qv (fun w hS => yLdB rfl isAgg3 (hS.at _) rfl) <| qv (fun w hS => yMove rfl) <| qv (fun w hS => yNil rfl) <| qv (fun w hS => fa272_2 rfl) <| qv (fun w hS => fa189_1 rfl) ?_
 refine qv (fun w hS => yLdB rfl isAgg3 (hS.at _) rfl) <| qv (fun w hS => yAddQ rfl rfl) <| qv (fun w hS => yNil rfl) <| qv (fun w hS => fa272_1 rfl) <| qv (fun w hS => fa183_0 rfl) ?_
 clear hS; refine qtl (fun w hS => ?_)
 refine sS hS rfl sizeOf3 fun w hS => ?_
 refine nil <| cwQ <| seq <| region <| vM ?_
 refine scV hS call156 e1 (c_spill (hS.at bw)) fun w hS => ?_
 refine sv (yNot rfl) <| vA <| nil <| cwQ <| wp_ret <| retQ (res1 rfl rfl) ?_
 exact ⟨rfl, hS⟩
theorem c_wover {b : Bas} {t : BTk} {vol R O K U : Int} {ar ap : Option Addr} {cr cp bw : Nat} {fv tv : Value} {w0 w : World} {L9 : List Bx.Item} (hS : StX [] w0 w (blk bw [.slice ar b.rows.length cr, .int .i64 b.leak, .int .i64 b.crest, .int .i64 b.over, .slice ap b.pols.length cp, .int .i64 (vol), fv, .int .i64 t.outer, .int .i64 t.river, .int .i64 t.out, .int .i64 (R), .int .i64 (O), .int .i64 (K), .int .i64 (U), tv] 272 :: L9)) (h1 : -10000000000 ≤ vol ∧ vol ≤ 10000000000) (h2 : TkOk t) (hok : BasOk b) : CE Tryz.prog 146 #[ptQ bw] w (fun u w' => u = .bool (!decide (1000000000 < vol + ovB b t)) ∧ StX [] w0 w' (blk bw [.slice ar b.rows.length cr, .int .i64 b.leak, .int .i64 b.crest, .int .i64 b.over, .slice ap b.pols.length cp, .int .i64 (vol + ovB b t), fv, .int .i64 t.outer, .int .i64 t.river, .int .i64 t.out, .int .i64 (R), .int .i64 (ovB b t), .int .i64 (K), .int .i64 (U), tv] 272 :: L9)) := by
 obtain ⟨q1, q2, q3⟩ := h2
 have hob := ovB_b hok q1
 have hcr := hok.crest
 unfold ovB at *
 refine enter func146 rfl ntmps146 rfl ?_
 skip
 refine seq <| region <| vA <| nil <| cwQ <| seq <| region_tail mixed 22 (by kernel_rfl) hS <| qv (fun w hS => yMove rfl) <| qv (fun w hS => yMove rfl) <| qv (fun w hS => yNil rfl) <| qv (fun w hS => fa272_0 rfl) <| qv (fun w hS => fa38_3 rfl) <| qv (fun w hS => yLdB rfl isAgg3 (hS.at _) rfl) ?_
 refine qv (fun w hS => yMove rfl) <| qv (fun w hS => yNil rfl) <| qv (fun w hS => fa272_2 rfl) <| qv (fun w hS => fa189_0 rfl) <| qv (fun w hS => yLdB rfl isAgg3 (hS.at _) rfl) <| qv (fun w hS => yMove rfl) <| qv (fun w hS => yNil rfl) <| qv (fun w hS => fa272_0 rfl) <| qv (fun w hS => fa38_2 rfl) <| qv (fun w hS => yLdB rfl isAgg3 (hS.at _) rfl) <| qv (fun w hS => ySubQ rfl rfl) <| qv (fun w hS => yMax rfl rfl) <| qv (fun w hS => yMul rfl rfl ⟨by omega, by omega⟩) ?_
 refine qv (fun w hS => yNil rfl) <| qv (fun w hS => fa272_3 rfl) <| qv (fun w hS => fa185_1 rfl) ?_
 clear hS; refine qtl (fun w hS => ?_)
 refine sS hS rfl sizeOf3 fun w hS => ?_
 refine nil <| cwQ <| seq <| region_tail mixed 14 (by kernel_rfl) hS <| qv (fun w hS => yMove rfl) <| qv (fun w hS => yNil rfl) <| qv (fun w hS => fa272_1 rfl) <| qv (fun w hS => fa183_0 rfl) <| qv (fun w hS => yLdB rfl isAgg3 (hS.at _) rfl) <| qv (fun w hS => yMove rfl) <| qv (fun w hS => yNil rfl) <| qv (fun w hS => fa272_3 rfl) <| qv (fun w hS => fa185_1 rfl) ?_
 refine qv (fun w hS => yLdB rfl isAgg3 (hS.at _) rfl) <| qv (fun w hS => yAddQ rfl rfl) <| qv (fun w hS => yNil rfl) <| qv (fun w hS => fa272_1 rfl) <| qv (fun w hS => fa183_0 rfl) ?_
 clear hS; refine qtl (fun w hS => ?_)
 refine sS hS rfl sizeOf3 fun w hS => ?_
 refine nil <| cwQ <| seq <| region <| vM ?_
 refine scV hS call156 e1 (c_spill (hS.at bw)) fun w hS => ?_
 refine sv (yNot rfl) <| vA <| nil <| cwQ <| wp_ret <| retQ (res1 rfl rfl) ?_
 exact ⟨rfl, hS⟩
theorem c_off {b : Bas} {t : BTk} {vol R O K U : Int} {ar ap : Option Addr} {cr cp bw : Nat} {fv tv : Value} {w0 w : World} {L9 : List Bx.Item} (hS : StX [] w0 w (blk bw [.slice ar b.rows.length cr, .int .i64 b.leak, .int .i64 b.crest, .int .i64 b.over, .slice ap b.pols.length cp, .int .i64 (vol), fv, .int .i64 t.outer, .int .i64 t.river, .int .i64 t.out, .int .i64 (R), .int .i64 (O), .int .i64 (K), .int .i64 (U), tv] 272 :: L9)) (h1 : -10000000000000000000 < vol ∧ vol ≤ 410000000000000000) (h0 : vlB b 0 ≤ vol) (h2 : TkOk t) (hok : BasOk b) (hsr : Sl w0 2 RBrow (.slice ar b.rows.length cr) b.rows) : CE Tryz.prog 148 #[ptQ bw] w (fun u w' => u = .bool true ∧ StX [] w0 w' (blk bw [.slice ar b.rows.length cr, .int .i64 b.leak, .int .i64 b.crest, .int .i64 b.over, .slice ap b.pols.length cp, .int .i64 (vol - min t.out (vol - vlB b 0)), fv, .int .i64 t.outer, .int .i64 t.river, .int .i64 t.out, .int .i64 (R), .int .i64 (O), .int .i64 (K), .int .i64 (min t.out (vol - vlB b 0)), tv] 272 :: L9)) := by
 obtain ⟨q1, q2, q3⟩ := h2
 have hv0 := hok.vl 0 (by have := hok.len; omega)
 refine enter func148 rfl ntmps148 rfl ?_
 skip
 refine seq <| region <| vA <| nil <| cwQ <| seq <| region_tail mixed 18 (by kernel_rfl) hS <| qv (fun w hS => yMove rfl) <| qv (fun w hS => yMove rfl) <| qv (fun w hS => yNil rfl) <| qv (fun w hS => fa272_2 rfl) <| qv (fun w hS => fa189_2 rfl) <| qv (fun w hS => yLdB rfl isAgg3 (hS.at _) rfl) ?_
 refine qv (fun w hS => yMove rfl) <| qv (fun w hS => yNil rfl) <| qv (fun w hS => fa272_1 rfl) <| qv (fun w hS => fa183_0 rfl) <| qv (fun w hS => yLdB rfl isAgg3 (hS.at _) rfl) <| qv (fun w hS => yMove rfl) <| qcall call158 e1 (fun w hS => c_least (hS.at bw) hok (hsr.ext RBrow.stays hS.ext)) <| qv (fun w hS => ySubQ rfl rfl) <| qv (fun w hS => yMin rfl rfl) <| qv (fun w hS => yNil rfl) <| qv (fun w hS => fa272_3 rfl) <| qv (fun w hS => fa185_3 rfl) ?_
 clear hS; refine qtl (fun w hS => ?_)
 refine sS hS rfl sizeOf3 fun w hS => ?_
 refine nil <| cwQ <| seq <| region_tail mixed 14 (by kernel_rfl) hS <| qv (fun w hS => yMove rfl) <| qv (fun w hS => yNil rfl) <| qv (fun w hS => fa272_1 rfl) <| qv (fun w hS => fa183_0 rfl) <| qv (fun w hS => yLdB rfl isAgg3 (hS.at _) rfl) <| qv (fun w hS => yMove rfl) <| qv (fun w hS => yNil rfl) <| qv (fun w hS => fa272_3 rfl) <| qv (fun w hS => fa185_3 rfl) ?_
 refine qv (fun w hS => yLdB rfl isAgg3 (hS.at _) rfl) <| qv (fun w hS => ySubQ rfl rfl) <| qv (fun w hS => yNil rfl) <| qv (fun w hS => fa272_1 rfl) <| qv (fun w hS => fa183_0 rfl) ?_
 clear hS; refine qtl (fun w hS => ?_)
 refine sS hS rfl sizeOf3 fun w hS => ?_
 refine nil <| cwQ <| seq <| region <| vA <| nil <| cwQ <| wp_ret <| retQ (res1 rfl rfl) ?_
 exact ⟨rfl, hS⟩
theorem c_CloneI {l : List Int} {a : Option Addr} {cap : Nat} {w0 : World} (hsl : Sl w0 1 RInt (.slice a l.length cap) l) (hlen : l.length ≤ 1000) : CE Tryz.prog 144 #[.slice a l.length cap] w0 (fun u w' => St w0 w' [rowI u 3 1 l.length (l.flatMap Bx.encI)]) := by
 refine enQ func144 rfl ntmps144 rfl fun hS => ?_
 refine seq <| region <| vA <| nil <| cwQ <| seq <| seq <| region <| vM <| sv (yEqNil rfl rfl underlying30) <| nil <| cwQ ?_
 refine cond rfl (fun c4 => ?_) (fun c4 => ?_)
 ·
  obtain rfl : a = none := by cases a with | none => rfl | some _ => cases c4
  obtain rfl := sl_nil_of hsl
  refine seq <| region <| vA <| nil <| cwQ ?_
  refine wp_ret (thenR ?_)
  refine retQ (res1 rfl rfl) ?_
  exact hS.nilrow 3 1
 refine skip <| cwQ <| seq <| region ?_
 refine sbslice0 hS underlying30 sizeOf3 ?_; clear hS; intro b5 w hS
 refine vM ?_
 refine sappS (bytes := 8) (size := 1) hS rfl rfl underlying30 ti3 rfl rfl rfl rfl (by decide) sizeOf3 (fun hh => by obtain ⟨bd, od, e1, e2⟩ := ints_news hsl hh; exact ⟨bd, od, e1, e2.ext hS.ext⟩) (by rw [flat_len encI_len]) (ints_one l) (by omega) (by omega) ?_; clear hS; intro v7 w hS; rw [Nat.zero_add, List.nil_append] at hS
 refine vA <| nil <| cwQ <| wp_ret <| retQ (res1 rfl rfl) ?_
 exact hS
theorem c_leak {b : Bas} {t : BTk} {vol R O K U : Int} {ar ap : Option Addr} {cr cp bw : Nat} {fv tv : Value} {w0 w : World} {L9 : List Bx.Item} (hS : StX [] w0 w (blk bw [.slice ar b.rows.length cr, .int .i64 b.leak, .int .i64 b.crest, .int .i64 b.over, .slice ap b.pols.length cp, .int .i64 (vol), fv, .int .i64 t.outer, .int .i64 t.river, .int .i64 t.out, .int .i64 (R), .int .i64 (O), .int .i64 (K), .int .i64 (U), tv] 272 :: L9)) (h0 : vlB b 0 ≤ vol) (h1 : vol ≤ 1000000000) (h2 : TkOk t) (hok : BasOk b) (hb : RBas w0 [.slice ar b.rows.length cr, .int .i64 b.leak, .int .i64 b.crest, .int .i64 b.over, .slice ap b.pols.length cp] b) : CE Tryz.prog 147 #[ptQ bw] w (fun u w' => u = .bool (!decide (1000000000 < vol + leakB b vol t.outer)) ∧ StX [] w0 w' (blk bw [.slice ar b.rows.length cr, .int .i64 b.leak, .int .i64 b.crest, .int .i64 b.over, .slice ap b.pols.length cp, .int .i64 (vol + leakB b vol t.outer), fv, .int .i64 t.outer, .int .i64 t.river, .int .i64 t.out, .int .i64 (R), .int .i64 (O), .int .i64 (leakB b vol t.outer), .int .i64 (U), tv] 272 :: L9)) := by
 obtain ⟨_, _, he, hsr, hlk, hcr, hov, hsp⟩ := id hb
 obtain ⟨rfl, rfl⟩ := bas_inj he
 have hrl := hok.len
 have hnp := hok.npol
 obtain ⟨q1, q2, q3⟩ := h2
 obtain ⟨m1, m2, m3, m4, m5, m6, m7⟩ := leak_m hok q1 h0 h1
 have hv0 := hok.vl 0 (by omega)
 have hd1 := (exD_bd hok vol).1
 refine enter func147 rfl ntmps147 rfl ?_
 skip
 refine seq <| region <| vA <| nil <| cwQ <| seq <| region_draw mixed (by kernel_rfl) hS <| qv (fun w hS => yMove rfl) <| qv (fun w hS => yNil rfl) <| qv (fun w hS => fa272_0 rfl) <| qv (fun w hS => yLdBA rfl isAgg38 sizeOf38 (hS.at _) rfl rfl) <| qv (fun w hS => yMove rfl) <| qv (fun w hS => yNil rfl) ?_
 refine qv (fun w hS => fa272_1 rfl) <| qv (fun w hS => fa183_0 rfl) <| qv (fun w hS => yLdB rfl isAgg3 (hS.at _) rfl) <| qcall call86 e2 (fun w hS => c_exact (hb.ext hS.ext) hok ⟨h0, h1⟩) <| qcall call157 e1 (fun w hS => c_minus (by omega)) <| qv (fun w hS => yIfaceG rfl underlying192 rfl) <| qv (fun w hS => yAsg rfl) ?_
 clear hS; refine qnil (fun w hS => ?_)
 refine cwQ <| seq <| region_tail mixed 29 (by kernel_rfl) hS <| qv (fun w hS => yMove rfl) <| qv (fun w hS => yMove rfl) <| qv (fun w hS => yMove rfl) <| qv (fun w hS => yNil rfl) <| qv (fun w hS => fa272_2 rfl) <| qv (fun w hS => fa189_0 rfl) <| qv (fun w hS => yLdB rfl isAgg3 (hS.at _) rfl) <| qv (fun w hS => yNeg rfl ⟨by omega, by omega⟩) <| qv (fun w hS => yMove rfl) <| qv (fun w hS => yNil rfl) ?_
 refine qv (fun w hS => fa272_0 rfl) <| qv (fun w hS => fa38_1 rfl) <| qv (fun w hS => yLdB rfl isAgg3 (hS.at _) rfl) <| qv (fun w hS => yFnM rfl) <| qv (fun w hS => yNilM rfl (na_over _)) <| qv (fun w hS => yMove rfl) <| qinv rfl (m_over _) e2 call198 (fun w hS => c_over m2 m3 m4 (by omega)) <| qv (fun w hS => yMove rfl) <| qcall call158 e1 (fun w hS => c_least (hS.at bw) hok (hsr.ext RBrow.stays hS.ext)) <| qv (fun w hS => yMove rfl) <| qv (fun w hS => yNil rfl) <| qv (fun w hS => fa272_1 rfl) <| qv (fun w hS => fa183_0 rfl) ?_
 refine qv (fun w hS => yLdB rfl isAgg3 (hS.at _) rfl) <| qv (fun w hS => ySubQ rfl rfl) <| qv (fun w hS => Y.to (yMax rfl rfl) (congrArg (Value.int .i64) m5)) <| qv (fun w hS => yNil rfl) <| qv (fun w hS => fa272_3 rfl) <| qv (fun w hS => fa185_2 rfl) ?_
 clear hS; refine qtl (fun w hS => ?_)
 refine sS hS rfl sizeOf3 fun w hS => ?_
 refine nil <| cwQ <| seq <| region_tail mixed 14 (by kernel_rfl) hS <| qv (fun w hS => yMove rfl) <| qv (fun w hS => yNil rfl) <| qv (fun w hS => fa272_1 rfl) <| qv (fun w hS => fa183_0 rfl) <| qv (fun w hS => yLdB rfl isAgg3 (hS.at _) rfl) <| qv (fun w hS => yMove rfl) <| qv (fun w hS => yNil rfl) <| qv (fun w hS => fa272_3 rfl) <| qv (fun w hS => fa185_2 rfl) ?_
 refine qv (fun w hS => yLdB rfl isAgg3 (hS.at _) rfl) <| qv (fun w hS => yAddQ rfl rfl) <| qv (fun w hS => yNil rfl) <| qv (fun w hS => fa272_1 rfl) <| qv (fun w hS => fa183_0 rfl) ?_
 clear hS; refine qtl (fun w hS => ?_)
 refine sS hS rfl sizeOf3 fun w hS => ?_
 refine nil <| cwQ <| seq <| region <| vM ?_
 refine scV hS call156 e1 (c_spill (hS.at bw)) fun w hS => ?_
 refine sv (yNot rfl) <| vA <| nil <| cwQ <| wp_ret <| retQ (res1 rfl rfl) ?_
 exact ⟨rfl, hS⟩
theorem c_polders {b : Bas} {t : BTk} {v0 R O K U : Int} {ar ap : Option Addr} {cr cp bw : Nat}  {l : List Int} {af : Option Addr} {cf : Nat} {w0 w : World} {L9 : List Bx.Item} (hS : StX [] w0 w (blk bw [.slice ar b.rows.length cr, .int .i64 b.leak, .int .i64 b.crest, .int .i64 b.over, .slice ap b.pols.length cp, .int .i64 (volP b l v0 0), .slice af l.length cf, .int .i64 t.outer, .int .i64 t.river, .int .i64 t.out, .int .i64 (R), .int .i64 (O), .int .i64 (K), .int .i64 (U), .slice none 0 0] 272 :: rowI (.slice af l.length cf) 3 1 l.length ((mixP b l v0 0).flatMap Bx.encI) :: L9)) (hv : vlB b 0 ≤ v0 ∧ v0 ≤ 1000000000) (hll : l.length = b.pols.length) (hf : ∀ i, i < b.pols.length → 0 ≤ flB l i ∧ flB l i ≤ (plB b i).room) (hok : BasOk b) (hb : RBas w0 [.slice ar b.rows.length cr, .int .i64 b.leak, .int .i64 b.crest, .int .i64 b.over, .slice ap b.pols.length cp] b) : CE Tryz.prog 149 #[ptQ bw] w (fun u w' => u = .bool true ∧ ∃ tv, StX [] w0 w' (blk bw [.slice ar b.rows.length cr, .int .i64 b.leak, .int .i64 b.crest, .int .i64 b.over, .slice ap b.pols.length cp, .int .i64 (volP b l v0 b.pols.length), .slice af l.length cf, .int .i64 t.outer, .int .i64 t.river, .int .i64 t.out, .int .i64 (R), .int .i64 (O), .int .i64 (K), .int .i64 (U), tv] 272 :: rowI (tv) 3 1 b.pols.length ((tksP b l v0 b.pols.length).flatMap Bx.encI) :: rowI (.slice af l.length cf) 3 1 l.length ((mixP b l v0 b.pols.length).flatMap Bx.encI) :: L9)) := by
 obtain ⟨_, _, he, hsr, hlk, hcr, hov, hsp⟩ := id hb
 obtain ⟨rfl, rfl⟩ := bas_inj he
 have hrl := hok.len
 have hnp := hok.npol
 
 refine enter func149 rfl ntmps149 rfl ?_
 skip
 refine seq <| region <| vA <| nil <| cwQ <| seq <| seq <| region <| vM <| sv (yNil rfl) <| sv (fa272_0 rfl) <| sv (fa38_4 rfl) <| vL rfl isAgg36 hS rfl ?_
 refine sv (yLen rfl underlying36) <| vM <| nil <| cwQ <| block <| loop (fun f w zz => ∃ (k : Nat) (tv : Value), f 0 = ptQ bw ∧ f 11 = .slice ap b.pols.length cp ∧ f 12 = .int .i64 (b.pols.length : Int) ∧ f 13 = .int .i64 (k : Int) ∧ StX [] w0 w ((blk bw [.slice ar b.rows.length cr, .int .i64 b.leak, .int .i64 b.crest, .int .i64 b.over, .slice ap b.pols.length cp, .int .i64 (volP b l v0 k), .slice af l.length cf, .int .i64 t.outer, .int .i64 t.river, .int .i64 t.out, .int .i64 (R), .int .i64 (O), .int .i64 (K), .int .i64 (U), tv] 272 :: rowI (tv) 3 1 k ((tksP b l v0 k).flatMap Bx.encI) :: rowI (.slice af l.length cf) 3 1 l.length ((mixP b l v0 k).flatMap Bx.encI) :: L9)) ∧ (k ≤ b.pols.length) ∧ zz = b.pols.length - k) _ ⟨_, rfl, 0, _, rfl, rfl, rfl, rfl, (hS.nilrow 3 1 |>.perm (List.Perm.swap _ _ _)), (Nat.zero_le _), rfl⟩ ?_
 clear hS
 rintro f w _ ⟨k, tv, h0, h11, h12, h13, hS, hk, rfl⟩
 refine seq <| region <| sv (yLss h13 h12) <| nil <| cwQ <| seq ?_
 refine cond rfl ?_ ?_ <;> intro c14 <;> simp only [BS, ne_eq] at c14
 ·
  have hkl : k < b.pols.length := by omega
  obtain ⟨bp, op, csp, hap, hlp, hcsp, hRp, -⟩ := sl_at hsp (plB_get (b := b) hkl)
  obtain ⟨rfl, -⟩ := hRp
  obtain ⟨p1, p2, p3, p4⟩ := plB_ok hok hkl
  have hl0 := hok.lv 0 (by omega)
  have hvk := volP_bd hok hf hv k hk
  have hfk := hf k hkl
  have htk := tkP_bd hok hf hv hkl
  obtain ⟨m1, m2, m3⟩ := take_m (x := plB b k) hok hvk.1 (by omega) ⟨by omega, by omega⟩ p2
  have hv00 := hok.vl 0 (by omega)
  have hd1 := (exD_bd hok (volP b l v0 k)).1
  obtain ⟨gf, cf2, hfe, -, -, -⟩ := row_some (hS.row (.slice af l.length cf)) (by omega)
  obtain ⟨rfl, -, rfl⟩ := slice_inj3 hfe
  have hmx := mixP_at (b := b) (v := v0) (show k < l.length by omega)
  refine skip <| cwQ <| seq <| block <| seq <| region <| sv (yMove h13) <| sv (yIxQ h11 hap h13 runUnderlying36 sizeOf173) <| sv (yLdA rfl isAgg173 sizeOf173 (hcsp.ext hS.ext) rfl) ?_
  refine salloc hS zeroValue173 rfl fun b4 w hS => ?_
  refine vA ?_
  refine sS hS rfl sizeOf173 fun w hS => ?_
  refine nil <| cwQ <| seq <| region_draw mixed (by kernel_rfl) hS <| qv (fun w hS => yMove h0) <| qv (fun w hS => yNil rfl) <| qv (fun w hS => fa272_0 rfl) <| qv (fun w hS => yLdBA rfl isAgg38 sizeOf38 (hS.at _) rfl rfl) <| qv (fun w hS => yMove h0) <| qv (fun w hS => yNil rfl) <| qv (fun w hS => fa272_1 rfl) <| qv (fun w hS => fa183_0 rfl) <| qv (fun w hS => yLdB rfl isAgg3 (hS.at _) rfl) ?_
  refine qcall call86 e2 (fun w hS => c_exact (hb.ext hS.ext) hok ⟨hvk.1, by omega⟩) <| qv (fun w hS => yIfaceG rfl underlying192 rfl) <| qv (fun w hS => yAsg rfl) ?_
  clear hS; refine qnil (fun w hS => ?_)
  refine cwQ <| seq <| region <| vA <| nil <| cwQ ?_
  refine seqJ (n := 85) (fun f w => ∃ (nn : Int), f 0 = ptQ bw ∧ f 3 = .int .i64 (k : Int) ∧ f 6 = .int .i64 nn ∧ f 11 = .slice ap b.pols.length cp ∧ f 12 = .int .i64 (b.pols.length : Int) ∧ f 13 = .int .i64 (k : Int) ∧ StX [] w0 w ((blk b4 (polC (plB b k)) 173 :: blk bw [.slice ar b.rows.length cr, .int .i64 b.leak, .int .i64 b.crest, .int .i64 b.over, .slice ap b.pols.length cp, .int .i64 (volP b l v0 k), .slice (some ⟨gf, 0, none⟩) l.length cf, .int .i64 t.outer, .int .i64 t.river, .int .i64 t.out, .int .i64 (R), .int .i64 (O), .int .i64 (K), .int .i64 (U), tv] 272 :: rowI (tv) 3 1 k ((tksP b l v0 k).flatMap Bx.encI) :: rowI (.slice (some ⟨gf, 0, none⟩) l.length cf) 3 1 l.length ((mixP b l v0 k).flatMap Bx.encI) :: L9)) ∧ (nn = tkP b l v0 k) ∧ True) ?_ ?_
  ·
   refine seq <| region <| vM <| sv (fa173_1 rfl) <| vL rfl isAgg3 hS rfl <| sinv rfl (m_above _) e1 call197 (c_above m1) ?_
   rintro _ w ⟨rfl, hE⟩; replace hS := hS.step hE; clear hE
   refine nil <| cwQ ?_
   refine cond rfl ?_ ?_ <;> intro c32 <;> simp only [BS, ne_eq] at c32
   ·
    refine region_draw mixed (by kernel_rfl) hS <| qv (fun w hS => yMove rfl) <| qv (fun w hS => fa173_1 rfl) <| qv (fun w hS => yLdB rfl isAgg3 (hS.at _) rfl) <| qv (fun w hS => fa173_2 rfl) <| qv (fun w hS => yLdB rfl isAgg3 (hS.at _) rfl) <| qinv rfl (m_over _) e2 call198 (fun w hS => c_over m1 m2 m3 (by omega)) <| qv (fun w hS => fa173_3 rfl) <| qv (fun w hS => yLdB rfl isAgg3 (hS.at _) rfl) <| qv (fun w hS => yMove h0) <| qv (fun w hS => yNil rfl) <| qv (fun w hS => fa272_1 rfl) <| qv (fun w hS => fa183_1 rfl) ?_
    refine qv (fun w hS => yLdB rfl isAgg30 (hS.at _) rfl) <| qv (fun w hS => yMove rfl) <| qv (fun w hS => yIx0 (m := k) rfl rfl runUnderlying30 sizeOf3 (by omega)) <| qv (fun w hS => yLd rfl isAgg3 ((flat_cells0 (enc := Bx.encI) encI_len (row_at (hS.row (.slice (some ⟨gf, 0, none⟩) l.length cf)) rfl (by omega)) hmx).one)) <| qv (fun w hS => ySubQ rfl rfl) <| qv (fun w hS => yMin rfl rfl) <| qv (fun w hS => yAsg rfl) ?_
    clear hS; refine qnil (fun w hS => ?_)
    exact ⟨_, rfl, _, h0, rfl, rfl, h11, h12, h13, hS, (take_some (by omega)), trivial⟩
   refine skip ?_
   exact ⟨_, rfl, 0, h0, rfl, rfl, h11, h12, h13, hS, (take_none (by omega)), trivial⟩
  clear hS; rintro f w ⟨nn, h0, h3, h6, h11, h12, h13, hS, hnn, -⟩
  refine seq <| region ?_
  subst hnn
  refine sv (yMove h0) <| sv (yNil rfl) <| sv (fa272_1 rfl) <| sv (fa183_0 rfl) <| vL rfl isAgg3 hS rfl <| sv (yMove h6) <| sv (ySubQ rfl rfl) <| sv (yNil rfl) <| sv (fa272_1 rfl) <| sv (fa183_0 rfl) ?_
  refine sS hS rfl sizeOf3 fun w hS => ?_
  refine nil <| cwQ <| seq <| region <| sv (yMove h0) <| sv (yNil rfl) <| sv (fa272_1 rfl) <| sv (fa183_1 rfl) <| vL rfl isAgg30 hS rfl <| sv (yMove h3) <| sv (yIx0 (m := k) rfl rfl runUnderlying30 sizeOf3 (by omega)) <| sv (yLd rfl isAgg3 ((flat_cells0 (enc := Bx.encI) encI_len (row_at (hS.row (.slice (some ⟨gf, 0, none⟩) l.length cf)) rfl (by omega)) hmx).one)) <| sv (yMove h6) ?_
  refine sv (yAddQ rfl rfl) <| sv (yIx0 (m := k) rfl rfl runUnderlying30 sizeOf3 (by omega)) ?_
  refine srst (m := l.length) (cap := cf) (sz := 1) (vs := Bx.encI (flB l k + tkP b l v0 k)) hS rfl rfl sizeOf3 rfl rfl (by omega) rfl ?_; clear hS; intro w hS
  rw [splice_enc encI_len _ _ _ (by rw [mixP_len (by omega)]; omega), mixP_set (by omega)] at hS
  refine nil <| cwQ <| region <| sv (yMove h0) <| sv (yMove h0) <| sv (yNil rfl) <| sv (fa272_3 rfl) <| sv (fa185_4 rfl) <| vL rfl isAgg30 hS rfl <| sv (yMove h6) ?_
  refine sbslice hS underlying30 sizeOf3 rfl zeroValue3 rfl (.cons rfl rfl .nil) rfl fun b79 w hS => ?_
  refine sapp (bytes := 8) (size := 1) (v := tv) (m := 1) hS rfl rfl underlying30 ti3 rfl rfl rfl rfl (by decide) (blk_cells (hS.at _)) rfl rfl (by omega) (by omega) ?_; clear hS; intro v80 w hS
  refine sv (yNil rfl) <| sv (fa272_3 rfl) <| sv (fa185_4 rfl) ?_
  obtain ⟨a80, c80, rfl⟩ := row_shape (hS.row v80)
  refine sS hS rfl sizeOf30 fun w hS => ?_
  refine nil <| cwQ <| region <| sv (yAddQ h13 rfl) <| vM <| nil ?_
  exact ⟨_, _, rfl, ⟨k + 1, _, h0, h11, h12, rfl, (by rw [tksP_succ, List.flatMap_append]; exact hS.sub (.cons _ (.cons _ lrQ))), (by omega), rfl⟩, by omega⟩
 obtain rfl : k = b.pols.length := by omega
 refine exit <| cwQ <| seq <| region <| vA <| nil <| cwQ <| wp_ret <| retQ (res1 rfl rfl) ?_
 exact ⟨rfl, _, hS⟩
theorem c_do {b : Bas} {s : BSt} {t : BTk} {ar ap af : Option Addr} {cr cp cf bw : Nat} {w0 : World} (ht : TkOk t) (hok : BasOk b) (hso : BstOk b s) (hb : RBas w0 [.slice ar b.rows.length cr, .int .i64 b.leak, .int .i64 b.crest, .int .i64 b.over, .slice ap b.pols.length cp] b) :
  ∀ (k : Nat) (tv : Value) (w : World) (L9 : List Bx.Item), k < 5 → tv = .slice none 0 0 → (∀ j, j < k → gK b s t j = true) → StX [] w0 w (blk bw [.slice ar b.rows.length cr, .int .i64 b.leak, .int .i64 b.crest, .int .i64 b.over, .slice ap b.pols.length cp, .int .i64 (vK b s t k), .slice af s.filled.length cf, .int .i64 t.outer, .int .i64 t.river, .int .i64 t.out, .int .i64 (rK t k), .int .i64 (oK b t k), .int .i64 (lK b s t k), .int .i64 (uK b s t k), tv] 272 :: rowI (tv) 3 1 (tK b s t k).length ((tK b s t k).flatMap Bx.encI) :: rowI (.slice af s.filled.length cf) 3 1 s.filled.length ((fK b s t k).flatMap Bx.encI) :: L9) → CE Tryz.prog (fnK 145 146 147 148 149 k) #[ptQ bw] w (fun u w' => u = .bool (gK b s t k) ∧ ∃ tv', (k + 1 < 5 → tv' = .slice none 0 0) ∧ StX [] w0 w' (blk bw [.slice ar b.rows.length cr, .int .i64 b.leak, .int .i64 b.crest, .int .i64 b.over, .slice ap b.pols.length cp, .int .i64 (vK b s t (k + 1)), .slice af s.filled.length cf, .int .i64 t.outer, .int .i64 t.river, .int .i64 t.out, .int .i64 (rK t (k + 1)), .int .i64 (oK b t (k + 1)), .int .i64 (lK b s t (k + 1)), .int .i64 (uK b s t (k + 1)), tv'] 272 :: rowI (tv') 3 1 (tK b s t (k + 1)).length ((tK b s t (k + 1)).flatMap Bx.encI) :: rowI (.slice af s.filled.length cf) 3 1 s.filled.length ((fK b s t (k + 1)).flatMap Bx.encI) :: L9))
 | 0, _, w, L9, _, rfl, _, hS => CE.mono (c_river hS (by have := hso.vol; have := hok.vl 0 (by have := hok.len; omega); show _ ≤ s.volume ∧ s.volume ≤ _; omega) ht) fun u w' ⟨h1, h2⟩ => ⟨h1, _, fun _ => rfl, h2⟩
 | 1, _, w, L9, _, rfl, _, hS => CE.mono (c_wover hS (by have := v1_bd hok hso ht; have := hok.vl 0 (by have := hok.len; omega); show _ ≤ v1B s t ∧ v1B s t ≤ _; omega) ht hok) fun u w' ⟨h1, h2⟩ => ⟨h1, _, fun _ => rfl, h2⟩
 | 2, _, w, L9, _, rfl, hg, hS => CE.mono (c_leak hS (v2_bd hok hso ht).1 (gK_1 (hg 1 (by omega))) ht hok hb) fun u w' ⟨h1, h2⟩ => ⟨h1, _, fun _ => rfl, h2⟩
 | 3, _, w, L9, _, rfl, hg, hS => CE.mono (c_off hS (by have := v3_bd hok hso ht (gK_1 (hg 1 (by omega))); have := gK_2 (hg 2 (by omega)); have := hok.vl 0 (by have := hok.len; omega); show _ < v3B b s t ∧ v3B b s t ≤ _; omega) (v3_bd hok hso ht (gK_1 (hg 1 (by omega)))).1 ht hok (by obtain ⟨_, _, he, hsr, -⟩ := id hb; obtain ⟨rfl, rfl⟩ := bas_inj he; exact hsr)) fun u w' ⟨h1, h2⟩ => ⟨h1, _, fun _ => rfl, h2⟩
 | 4, _, w, L9, _, rfl, hg, hS => CE.mono (c_polders (l := s.filled) (v0 := v4B b s t) (L9 := L9) (hS.sub (.cons_cons _ (.cons _ lrQ))) (v4_bd hok hso ht (gK_1 (hg 1 (by omega))) (gK_2 (hg 2 (by omega)))) hso.len hso.fil hok hb) fun u w' ⟨h1, tv', h2⟩ => ⟨h1, tv', fun h => absurd h (by omega), by rw [show tK b s t (4 + 1) = tksP b s.filled (v4B b s t) b.pols.length from rfl, tksP_len]; rw [mixP_all hso.len.symm] at h2; exact h2⟩
 | k + 5, _, _, _, h, _, _, _ => absurd h (by omega)
theorem call_fnK : ∀ (k : Nat) (ars : Array Value) (w : World), (callFunc (fnK 145 146 147 148 149 k) ars).run Tryz.prog w = .ok (.enter (fnK 145 146 147 148 149 k) ars) w
 | 0 => call145 | 1 => call146 | 2 => call147 | 3 => call148 | _ + 4 => call149
theorem c_step {b : Bas} {cs : List Value} {s : BSt} {qs : List Value} {t : BTk} {w0 : World} (h : RBas w0 cs b) (h2 : RBst w0 qs s) (hok : BasOk b) (hso : BstOk b s) (hI : I64 t.outer ∧ I64 t.river ∧ I64 t.out) : CE Tryz.prog 122 #[.agg cs.toArray, .agg qs.toArray, .agg (btkC t).toArray] w0 (fun u w' => (stepE b s t ≠ 0 ∧ u = .tuple #[.agg (.int .i64 0 :: .slice none 0 0 :: []).toArray, .agg (.int .i64 0 :: .int .i64 0 :: .int .i64 0 :: .int .i64 0 :: .slice none 0 0 :: []).toArray, .int .i64 (stepE b s t)] ∧ Ext w0 w') ∨ (stepE b s t = 0 ∧ ∃ a1 n1 c1 a2 n2 c2 it, u = .tuple #[.agg (.int .i64 (bstS b s t).volume :: .slice a1 n1 c1 :: []).toArray, .agg (flC (stepF b s t) (.slice a2 n2 c2)).toArray, .int .i64 0] ∧ (∀ w, it.ok w → RBst w [.int .i64 (bstS b s t).volume, .slice a1 n1 c1] (bstS b s t) ∧ RBfl w (flC (stepF b s t) (.slice a2 n2 c2)) (stepF b s t)) ∧ StX [] w0 w' [it])) := by
 obtain ⟨rv, pv, rfl, hsr, hlk, hcr, hov, hsp⟩ := id h
 obtain ⟨ar, cr, rfl, hrcap, hrmx, hrel⟩ := id hsr
 obtain ⟨ap, cp, rfl, hpcap, hpmx, hpel⟩ := id hsp
 obtain ⟨fv, rfl, hsv, hsf, hsm⟩ := id h2
 obtain ⟨ag, cg, rfl, hfcap, hfmx, hfel⟩ := id hsf
 have hsl := hso.len
 have hnp := hok.npol
 refine enQ func122 rfl ntmps122 rfl fun hS => ?_
 refine seq <| region ?_
 refine sbox hS rfl rfl fun b3 w hS => ?_
 refine sbox hS rfl rfl fun b4 w hS => ?_
 refine sbox hS rfl rfl fun b5 w hS => ?_
 refine salloc hS zeroValue183 rfl fun b6 w hS => ?_
 refine salloc hS zeroValue185 rfl fun b7 w hS => ?_
 refine vA <| nil <| cwQ <| seq <| seq <| region <| sv (fa189_0 rfl) <| vL rfl isAgg3 hS rfl ?_
 refine scV hS call114 e1 c_high fun w hS => ?_
 refine vM ?_
 refine sg rfl rfl rfl (fun g => (fa189_1 rfl)) (fun v16 g16 => ?_)
 refine sg rfl rfl rfl (fun g => (yLdB (g16.1 g) isAgg3 (hS.at _) rfl)) (fun v17 g17 => ?_)
 refine sgc hS rfl rfl rfl call85 (fun g => (.cons (g17.1 g) e2)) (fun g => c_bout) ?_; clear hS; intro v18 w hS g18
 refine sv (yOr rfl rfl (fun hB => (g18.1 hB))) <| vM ?_
 refine sg rfl rfl rfl (fun g => (fa189_2 rfl)) (fun v21 g21 => ?_)
 refine sg rfl rfl rfl (fun g => (yLdB (g21.1 g) isAgg3 (hS.at _) rfl)) (fun v22 g22 => ?_)
 refine sgc hS rfl rfl rfl call85 (fun g => (.cons (g22.1 g) e2)) (fun g => c_bout) ?_; clear hS; intro v23 w hS g23
 refine sv (yOr rfl rfl (fun hB => (g23.1 hB))) <| nil <| cwQ ?_
 refine cond rfl (fun c24 => ?_) (fun c24 => ?_)
 ·
  refine seq <| region <| sv (yBuild zeroValue183 rfl pl183 .nil rfl) <| sv (yBuild zeroValue185 rfl pl185 .nil rfl) ?_
  refine sS hS rfl sizeOf183 fun w hS => ?_
  refine sS hS rfl sizeOf185 fun w hS => ?_
  refine vA <| nil <| cwQ ?_
  have hE := stepE_bad (b := b) (s := s) (show tkBad t = true from c24)
  refine wp_ret (thenR ?_)
  refine retQ (resV3 rfl (rc rfl isAgg183 sizeOf183 (hS.at _) rfl rfl) (rc rfl isAgg185 sizeOf185 (hS.at _) rfl rfl) (rt rfl)) ?_
  exact .inl ⟨by rw [hE]; decide, by rw [hE]; rfl, hS.ext⟩
 have htb : tkBad t = false := c24
 have ht := tk_ok htb
 refine skip <| cwQ <| seq <| region <| sv (fa183_1 rfl) <| vL rfl isAgg30 hS rfl ?_
 refine scall call144 e1 (c_CloneI (hsf.ext RInt.stays hS.ext) (by omega)) ?_
 rintro v29 w hM; replace hS := hS.call1 hM; clear hM
 obtain ⟨af, cf, rfl⟩ := row_shape (hS.row v29)
 refine sv (fa183_1 rfl) ?_
 refine sS hS rfl sizeOf30 fun w hS => ?_
 refine nil <| cwQ <| seq <| region <| sv (yLdBA rfl isAgg38 sizeOf38 (hS.at _) rfl rfl) <| sv (yLdBA rfl isAgg183 sizeOf183 (hS.at _) rfl rfl) <| sv (yLdBA rfl isAgg189 sizeOf189 (hS.at _) rfl rfl) <| sv (yBuild zeroValue272 rfl pl272 (.cons rfl rfl (.cons rfl rfl (.cons rfl rfl .nil))) rfl) ?_
 refine sbox hS rfl rfl fun b35 w hS => ?_
 refine vA <| nil <| cwQ <| seq <| seq <| region ?_
 replace hS := hS.nilrow 3 1
 replace hS : StX [] w0 w (blk b35 [.slice ar b.rows.length cr, .int .i64 b.leak, .int .i64 b.crest, .int .i64 b.over, .slice ap b.pols.length cp, .int .i64 (vK b s t 0), .slice af s.filled.length cf, .int .i64 t.outer, .int .i64 t.river, .int .i64 t.out, .int .i64 (rK t 0), .int .i64 (oK b t 0), .int .i64 (lK b s t 0), .int .i64 (uK b s t 0), .slice none 0 0] 272 :: rowI (.slice none 0 0) 3 1 (tK b s t 0).length ((tK b s t 0).flatMap Bx.encI) :: rowI (.slice af s.filled.length cf) 3 1 s.filled.length ((fK b s t 0).flatMap Bx.encI) :: blk b7 [.int .i64 0, .int .i64 0, .int .i64 0, .int .i64 0, .slice none 0 0] 185 :: blk b6 [.int .i64 0, .slice none 0 0] 183 :: []) := front_perm (hS.sub (.cons_cons _ (.cons_cons _ (.cons_cons _ (.cons_cons _ (.cons_cons _ (List.nil_sublist _)))))))
 refine vM <| sv (yFnB e1) <| vM <| sv (yFnB e1) <| vM <| sv (yFnB e1) <| vM <| sv (yFnB e1) <| vM <| sv (yFnB e1) <| sv (yBuildA zeroValue273 rfl underlying273 sizeOf52 (.cons rfl rfl (.cons rfl rfl (.cons rfl rfl (.cons rfl rfl (.cons rfl rfl .nil))))) rfl) <| vM <| nil ?_
 refine cwQ <| block <| loop (fun f w zz => ∃ (k : Nat) (tv : Value), f 6 = ptQ b6 ∧ f 7 = ptQ b7 ∧ f 9 = ptQ b35 ∧ f 46 = .agg (.func (.func 145) #[ptQ b35] #[] :: .func (.func 146) #[ptQ b35] #[] :: .func (.func 147) #[ptQ b35] #[] :: .func (.func 148) #[ptQ b35] #[] :: .func (.func 149) #[ptQ b35] #[] :: []).toArray ∧ f 47 = .int .i64 (k : Int) ∧ StX [] w0 w ((blk b35 [.slice ar b.rows.length cr, .int .i64 b.leak, .int .i64 b.crest, .int .i64 b.over, .slice ap b.pols.length cp, .int .i64 (vK b s t k), .slice af s.filled.length cf, .int .i64 t.outer, .int .i64 t.river, .int .i64 t.out, .int .i64 (rK t k), .int .i64 (oK b t k), .int .i64 (lK b s t k), .int .i64 (uK b s t k), tv] 272 :: rowI (tv) 3 1 (tK b s t k).length ((tK b s t k).flatMap Bx.encI) :: rowI (.slice af s.filled.length cf) 3 1 s.filled.length ((fK b s t k).flatMap Bx.encI) :: blk b7 [.int .i64 0, .int .i64 0, .int .i64 0, .int .i64 0, .slice none 0 0] 185 :: blk b6 [.int .i64 0, .slice none 0 0] 183 :: [])) ∧ (k ≤ 5) ∧ (k < 5 → tv = .slice none 0 0) ∧ (∀ j, j < k → gK b s t j = true) ∧ zz = 5 - k) _ ⟨_, rfl, 0, _, rfl, rfl, rfl, rfl, rfl, hS, (Nat.zero_le _), (fun _ => rfl), (fun j hj => absurd hj (Nat.not_lt_zero j)), rfl⟩ ?_
 clear hS
 rintro f w _ ⟨k, tv, h6, h7, h9, h46, h47, hS, hk, htv, hg, rfl⟩
 refine seq <| region <| sv (yLss h47 rfl) <| nil <| cwQ <| seq ?_
 refine cond rfl ?_ ?_ <;> intro c48 <;> simp only [BS, ne_eq] at c48
 ·
  refine skip <| cwQ <| seq <| block <| seq <| region ?_
  refine sv (yIdxA (v := .func (.func (fnK 145 146 147 148 149 k)) #[ptQ b35] #[]) h46 h47 underlying273 sizeOf52 isAgg52 (by omega) (by omega) (by rcases k with _ | _ | _ | _ | _ | k <;> first | rfl | omega)) ?_
  refine vA <| nil <| cwQ <| seq <| region <| vM ?_
  refine scallfB rfl (call_fnK k) .nil (c_do ht hok hso h k tv w _ (by omega) (htv (by omega)) hg hS) ?_
  rintro _ w ⟨rfl, tv2, htv2, hM⟩; replace hS := hM; clear hM
  refine sv (yNot rfl) <| nil <| cwQ ?_
  refine cond rfl (fun c52 => ?_) (fun c52 => ?_)
  ·
   refine seq <| region <| sv (yBuild zeroValue183 rfl pl183 .nil rfl) <| sv (yBuild zeroValue185 rfl pl185 .nil rfl) ?_
   refine sS hS h6 sizeOf183 fun w hS => ?_
   refine sS hS h7 sizeOf185 fun w hS => ?_
   refine vA <| nil <| cwQ ?_
   have hE := stepE_long htb (show k < 5 by omega) (show gK b s t k = false by revert c52; cases gK b s t k <;> simp)
   refine wp_ret (blockR (thenR (thenR (blockR (thenR ?_)))))
   refine retQ (resV3 rfl (rc h6 isAgg183 sizeOf183 (hS.at _) rfl rfl) (rc h7 isAgg185 sizeOf185 (hS.at _) rfl rfl) (rt rfl)) ?_
   exact .inl ⟨by rw [hE]; decide, by rw [hE]; rfl, hS.ext⟩
  refine skip <| cwQ <| region <| sv (yAddQ h47 rfl) <| vM <| nil ?_
  exact ⟨_, _, rfl, ⟨k + 1, _, h6, h7, h9, h46, rfl, hS, (by omega), (htv2), (snoc hg (by revert c52; cases gK b s t k <;> simp)), rfl⟩, by omega⟩
 obtain rfl : k = 5 := by omega
 obtain ⟨atv, ctv, rfl⟩ := row_shape (hS.row tv)
 refine exit <| cwQ <| seq <| region_mix (fun w => w.heap[b35]? = some (.cells ([.slice ar b.rows.length cr, .int .i64 b.leak, .int .i64 b.crest, .int .i64 b.over, .slice ap b.pols.length cp, .int .i64 (vK b s t 5), .slice af s.filled.length cf, .int .i64 t.outer, .int .i64 t.river, .int .i64 t.out, .int .i64 (rK t 5), .int .i64 (oK b t 5), .int .i64 (lK b s t 5), .int .i64 (uK b s t 5), (.slice atv (tK b s t 5).length ctv)] : List Value).toArray 272 (0, 0))) 11 mixed hS ?_
 clear hS; intro w hS
 refine fsR 0 rfl (hS.at b35) (fun w hS => yMove h9) <| fsR 1 rfl (hS.at b35) (fun w hS => yNil rfl) <| fsR 2 rfl (hS.at b35) (fun w hS => fa272_1 rfl) <| fsR 3 rfl (hS.at b35) (fun w hS => yLdBA rfl isAgg183 sizeOf183 hS rfl rfl) <| fsR 4 rfl (hS.at b35) (fun w hS => yMove h9) <| fsR 5 rfl (hS.at b35) (fun w hS => yNil rfl) <| fsR 6 rfl (hS.at b35) (fun w hS => fa272_3 rfl) <| fsR 7 rfl (hS.at b35) (fun w hS => yLdBA rfl isAgg185 sizeOf185 hS rfl rfl) <| awQ <| a1Q 8 rfl ?_
 refine sS hS h6 sizeOf183 fun w hS => ?_
 refine nil ?_
 refine ⟨fun _ => (hS.at b35), ?_⟩
 refine awQ <| awQ <| a1Q 9 rfl ?_
 refine sS hS h7 sizeOf185 fun w hS => ?_
 refine nil ?_
 refine ⟨fun _ => (hS.at b35), ?_⟩
 refine awQ <| fsR 10 rfl (hS.at b35) (fun w hS => yAsg rfl) <| a_end (by kernel_rfl) <| cwQ ?_
 have hE := stepE_fine htb hg
 refine wp_ret <| retQ (resV3 rfl (rc h6 isAgg183 sizeOf183 (hS.at _) rfl rfl) (rc h7 isAgg185 sizeOf185 (hS.at _) rfl rfl) (rt rfl)) ?_
 exact .inr ⟨hE, _, _, _, _, _, _, packI [rowI (.slice atv (tK b s t 5).length ctv) 3 1 (tK b s t 5).length ((tK b s t 5).flatMap Bx.encI), rowI (.slice af s.filled.length cf) 3 1 s.filled.length ((fK b s t 5).flatMap Bx.encI)], rfl, fun w hw => ⟨step_st1 hok hso ht hg (hw _ (List.mem_cons_of_mem _ (List.mem_cons_self ..))), step_fl1 hok hso ht hg (hw _ (List.mem_cons_self ..))⟩, StX.pack (M := [rowI (.slice atv (tK b s t 5).length ctv) 3 1 (tK b s t 5).length ((tK b s t 5).flatMap Bx.encI), rowI (.slice af s.filled.length cf) 3 1 s.filled.length ((fK b s t 5).flatMap Bx.encI)]) (hS.sub (.cons _ (.cons_cons _ (.cons_cons _ (List.nil_sublist _)))))⟩
end Go.Proofs.YtchbdfcbogjhcaaGreatDoor
namespace Bx
open Go Go.RowKit
def idxL (b : Bas) (l : Int) : Nat → Nat
 | 0 => 0
 | k + 1 => if lvB b (k + 1) ≤ l then k + 1 else idxL b l k
theorem idxL_le (b : Bas) (l : Int) : ∀ n, idxL b l n ≤ n
  | 0 => Nat.le_refl _
  | k + 1 => by rw [idxL]; split; · exact Nat.le_refl _
                · exact Nat.le_succ_of_le (idxL_le b l k)
theorem idxL_lv (b : Bas) (l : Int) (h0 : lvB b 0 ≤ l) : ∀ n, lvB b (idxL b l n) ≤ l
  | 0 => h0
  | k + 1 => by
    rw [idxL]
    split
    · assumption
    · exact idxL_lv b l h0 k
theorem idxL_gt (b : Bas) (l : Int) : ∀ n i, idxL b l n < i → i ≤ n → l < lvB b i
  | 0, i, h1, h2 => by rw [idxL] at h1; omega
  | k + 1, i, h1, h2 => by
    rw [idxL] at h1
    split at h1
    · omega
    · next h =>
      by_cases hi : i = k + 1
      · rw [hi]; omega
      · exact idxL_gt b l k i h1 (by omega)
theorem idxL_down {b : Bas} {l : Int} {k : Nat} (h : l < lvB b (k + 1)) : idxL b l (k + 1) = idxL b l k := by rw [idxL, if_neg (by omega)]
theorem idxL_here {b : Bas} {l : Int} {k : Nat} (h : lvB b k ≤ l) : idxL b l k = k := by
 cases k with
 | zero => rfl
 | succ k => rw [idxL, if_pos h]
def idB (b : Bas) (l : Int) : Nat := idxL b l (b.rows.length - 2)
def volX (b : Bas) (l : Int) : Int := vlB b (idB b l) + (l - lvB b (idB b l)) * (vlB b (idB b l + 1) - vlB b (idB b l)) / (lvB b (idB b l + 1) - lvB b (idB b l))
def volB (b : Bas) (l : Int) : Int := min 1000000000 (volX b l)
section
variable {b : Bas} (h : BasOk b)
include h
theorem idB_lt (l : Int) : idB b l + 1 < b.rows.length := by have := idxL_le b l (b.rows.length - 2); have := h.len; unfold idB; omega
theorem volX_ge {l : Int} (h0 : lvB b 0 ≤ l) : vlB b (idB b l) ≤ volX b l := by
 have hi := idB_lt h l
 have h1 : lvB b (idB b l) ≤ l := idxL_lv b l h0 _
 have := h.lvs _ hi
 have := h.vls _ hi
 have : 0 ≤ (l - lvB b (idB b l)) * (vlB b (idB b l + 1) - vlB b (idB b l)) / (lvB b (idB b l + 1) - lvB b (idB b l)) := Int.ediv_nonneg (Int.mul_nonneg (by omega) (by omega)) (by omega)
 unfold volX; omega
theorem volX_mono {l l' : Int} (h0 : lvB b 0 ≤ l) (hl : l ≤ l') : volX b l ≤ volX b l' := by
 have hi := idB_lt h l
 have hi' := idB_lt h l'
 have a1 : lvB b (idB b l) ≤ l := idxL_lv b l h0 _
 have a2 : lvB b (idB b l') ≤ l' := idxL_lv b l' (by omega) _
 have s1 := h.lvs _ hi
 have s2 := h.vls _ hi
 have n1 := idxL_le b l (b.rows.length - 2)
 rcases Nat.lt_trichotomy (idB b l) (idB b l') with hlt | heq | hgt
 ·
  have hx : l < lvB b (idB b l + 1) := idxL_gt b l _ _ (Nat.lt_succ_self _) (by have := idxL_le b l' (b.rows.length - 2); unfold idB at hlt ⊢; omega)
  have g := volX_ge h (l := l') (by omega)
  have m := vl_mono h (show idB b l + 1 ≤ idB b l' by omega) (by omega)
  have : volX b l ≤ vlB b (idB b l + 1) := by
   unfold volX
   have : (l - lvB b (idB b l)) * (vlB b (idB b l + 1) - vlB b (idB b l)) / (lvB b (idB b l + 1) - lvB b (idB b l)) ≤ vlB b (idB b l + 1) - vlB b (idB b l) := by
    refine Int.ediv_le_of_le_mul (by omega) ?_
    rw [Int.mul_comm (vlB b (idB b l + 1) - vlB b (idB b l))]
    exact Int.mul_le_mul_of_nonneg_right (by omega) (by omega)
   omega
  omega
 ·
  unfold volX
  rw [← heq]
  have : (l - lvB b (idB b l)) * (vlB b (idB b l + 1) - vlB b (idB b l)) / (lvB b (idB b l + 1) - lvB b (idB b l)) ≤ (l' - lvB b (idB b l)) * (vlB b (idB b l + 1) - vlB b (idB b l)) / (lvB b (idB b l + 1) - lvB b (idB b l)) :=
   Int.ediv_le_ediv (by omega) (Int.mul_le_mul_of_nonneg_right (by omega) (by omega))
  omega
 ·
  exfalso
  have := idxL_gt b l' (b.rows.length - 2) (idB b l) hgt n1
  omega
theorem volB_mono {l l' : Int} (h0 : lvB b 0 ≤ l) (hl : l ≤ l') : volB b l ≤ volB b l' := by
 have := volX_mono h h0 hl
 unfold volB; omega
theorem volB_bd {l : Int} (h0 : lvB b 0 ≤ l) : vlB b 0 ≤ volB b l ∧ volB b l ≤ 1000000000 := by
 have h1 := volX_ge h h0
 have h2 := vl_mono h (Nat.zero_le (idB b l)) (by have := idB_lt h l; omega)
 have h3 := h.vl 0 (by have := h.len; omega)
 unfold volB; omega
end
def lvlS (b : Bas) (v : Int) : Span := ⟨exN b v / exD b v, -(-exN b v / exD b v)⟩
theorem lvlS_mono {b : Bas} (h : BasOk b) {v v' : Int} (h0 : vlB b 0 ≤ v) (hv : v ≤ v') : (lvlS b v).hi ≤ (lvlS b v').hi := by
 obtain ⟨l1, -⟩ := ex_lip h h.leak.1 h.wleak h0 hv
 have d1 := exD_bd h v
 have d2 := exD_bd h v'
 show -(-exN b v / exD b v) ≤ -(-exN b v' / exD b v')
 generalize exN b v = n at *
 generalize exN b v' = n' at *
 generalize exD b v = d at *
 generalize exD b v' = d' at *
 have q : -n' / d' ≤ -n / d := by
  refine (Int.le_ediv_iff_mul_le (by omega)).2 ?_
  have q1 := Int.ediv_mul_le (-n') (show d' ≠ 0 by omega)
  generalize -n' / d' = q at *
  have k1 : q * d' * d ≤ -n' * d := Int.mul_le_mul_of_nonneg_right q1 (by omega)
  have k2 : q * d * d' ≤ -n * d' := by
   rw [Int.mul_assoc, Int.mul_comm d d', ← Int.mul_assoc]
   rw [Int.neg_mul] at k1 ⊢
   omega
  exact Int.le_of_mul_le_mul_right k2 (by omega)
 omega
theorem lvlS_bd {b : Bas} (h : BasOk b) {v : Int} (h0 : vlB b 0 ≤ v) (h1 : v ≤ 1000000000) : (-60000000000000 ≤ (lvlS b v).lo ∧ (lvlS b v).lo ≤ 60000000000000) ∧ -60000000000000 ≤ (lvlS b v).hi ∧ (lvlS b v).hi ≤ 60000000000000 := by
 have hn := exN_bd h h0 h1
 have hd := exD_bd h v
 have key : ∀ a : Int, -60000000000000 ≤ a → a ≤ 60000000000000 → -60000000000000 ≤ a / exD b v ∧ a / exD b v ≤ 60000000000000 := fun a h1 h2 => by
  constructor
  ·
   refine (Int.le_ediv_iff_mul_le (by omega)).2 ?_
   have := Int.mul_le_mul_of_nonneg_left (show (1 : Int) ≤ exD b v by omega) (show (0 : Int) ≤ 60000000000000 by decide)
   rw [Int.neg_mul]; omega
  ·
   refine Int.ediv_le_of_le_mul (by omega) ?_
   have := Int.mul_le_mul_of_nonneg_left (show (1 : Int) ≤ exD b v by omega) (show (0 : Int) ≤ 60000000000000 by decide)
   omega
 have k1 := key (exN b v) (by omega) (by omega)
 have k2 := key (-exN b v) (by omega) (by omega)
 show (_ ≤ exN b v / exD b v ∧ exN b v / exD b v ≤ _) ∧ _ ≤ -(-exN b v / exD b v) ∧ -(-exN b v / exD b v) ≤ _
 omega
theorem stB_0 {b : Bas} {s : BSt} (h : (checkB b).2.2 = 0) (hs : BstOk b s) : stB b s = 0 := by
 unfold stB
 rw [if_neg (fun k => k h), if_neg (by rw [hs.len]; exact fun k => k rfl), if_neg (by rw [outB_false.2 hs.vol]; decide), if_neg]
 intro hh
 obtain ⟨i, hi, hb⟩ := List.any_eq_true.1 hh
 have hi := List.mem_range.1 hi
 have := hs.fil i (by rw [← hs.len]; exact hi)
 revert hb
 simp only [filBad]
 rw [outB_false.2 (by simpa [flB, plB] using this)]
 decide
end Bx
namespace Go.Proofs.YtchbdfcbogjhcaaGreatDoor
open Go Bx Go.Proofs.Tryz
theorem c_span {rn rd : Int} {w0 : World} (hd : 0 < rd) (hn : -9223372036854775000 ≤ rn ∧ rn ≤ 9223372036854775000) (hq : -9223372036854775000 ≤ -rn / rd ∧ -rn / rd ≤ 9223372036854775000) : CV Tryz.prog 199 #[.agg (.int .i64 rn :: .int .i64 rd :: []).toArray] w0 (.agg (spanC ⟨rn / rd, -(-rn / rd)⟩).toArray) := by
 refine enQ func199 rfl ntmps199 rfl fun hS => ?_
 refine seq <| region ?_
 refine sbox hS rfl rfl fun b1 w hS => ?_
 refine salloc hS zeroValue69 rfl fun b2 w hS => ?_
 refine nil <| cwQ <| seq ?_
 refine rmQ (fun w => w.heap[b1]? = some (.cells ([.int .i64 rn, .int .i64 rd] : List Value).toArray 192 (0, 0))) (fun _ => True) [] [] mixed hS ?_; clear hS; intro w hS
 refine mQ 0 rfl (fun w hS => fa192_0 rfl) <| mq 1 1 [] (by kernel_rfl) rfl (hS.at b1) (fun w hS => yLdB rfl isAgg3 hS rfl) <| mQ 2 rfl (fun w hS => fa192_1 rfl) <| mq 1 3 [] (by kernel_rfl) rfl (hS.at b1) (fun w hS => yLdB rfl isAgg3 hS rfl) <| mQ 5 rfl (fun w hS => fa192_0 rfl) <| mq 1 6 [] (by kernel_rfl) rfl (hS.at b1) (fun w hS => yLdB rfl isAgg3 hS rfl) <| mQ 7 rfl (fun w hS => yNeg rfl ⟨by omega, by omega⟩) <| mQ 8 rfl (fun w hS => fa192_1 rfl) <| mq 1 9 [] (by kernel_rfl) rfl (hS.at b1) (fun w hS => yLdB rfl isAgg3 hS rfl) <| m1Q 4 rfl ?_
 refine scV hS call200 e2 (c_bfloor hd hn) fun w hS => ?_
 refine nil <| nnQ (hS.at b1) <| mw <| m1Q 10 rfl ?_
 refine scV hS call200 e2 (c_bfloor hd (by omega)) fun w hS => ?_
 refine nil <| nnQ (hS.at b1) <| mw <| mQ 11 rfl (fun w hS => yNeg rfl ⟨by omega, by omega⟩) <| mQ 12 rfl (fun w hS => yBuild zeroValue69 rfl pl69 (.cons rfl rfl (.cons rfl rfl .nil)) rfl) <| m1Q 13 rfl ?_
 refine sS hS rfl sizeOf69 fun w hS => ?_
 refine nil <| nnQ (hS.at b1) <| mw <| me (by kernel_rfl) <| cwQ <| wp_ret ?_
 exact retV (resV1 rfl (rc rfl isAgg69 sizeOf69 (hS.at _) rfl rfl)) hS.ext
theorem m_span (v : Value) : Mth Tryz.prog 192 "barrage/basin.span" 199 v := fun w => by kernel_rfl
theorem c_Level4 {b : Bas} {cs : List Value} {v : Int} {w0 : World} (h : RBas w0 cs b) (hb0 : (checkB b).2.2 = 0) (hv : vlB b 0 ≤ v ∧ v ≤ 1000000000) : CV Tryz.prog 58 #[.agg cs.toArray, .int .i64 v] w0 (.tuple #[.agg (spanC (lvlS b v)).toArray, .int .i64 0]) := by
 obtain ⟨rv, pv, rfl, hsr, hlk, hcr, hov, hsp⟩ := id h
 obtain ⟨ar, cr, rfl, hrcap, hrmx, hrel⟩ := id hsr
 obtain ⟨ap, cp, rfl, hpcap, hpmx, hpel⟩ := id hsp
 have hok := check_ok hb0
 have hrl := hok.len
 obtain ⟨br0, or0, cr0, har0, hlr0, hcr0, hRr0, -⟩ := sl_at hsr (brow_get (b := b) (show 0 < b.rows.length by omega))
 obtain ⟨rfl, hr01, hr02⟩ := hRr0
 have hout : outB v (vlB b 0) 1000000000 = false := outB_false.2 hv
 unfold vlB at hout
 have hnb := exN_bd hok hv.1 hv.2
 have hdb := exD_bd hok v
 have hlb := lvlS_bd hok hv.1 hv.2
 refine enQ func58 rfl ntmps58 rfl fun hS => ?_
 refine seq <| region ?_
 refine sbox hS rfl rfl fun b2 w hS => ?_
 refine salloc hS zeroValue69 rfl fun b4 w hS => ?_
 refine vA <| nil <| cwQ <| seq <| region <| sv (yLdBA rfl isAgg38 sizeOf38 (hS.at _) rfl rfl) ?_
 refine scV hS call84 e1 (c_valid (h.ext hS.ext)) fun w hS => ?_
 refine vA <| nil <| cwQ <| seq <| block <| seq <| region <| vM <| sv (yNeq rfl rfl) <| vA <| nil <| cwQ ?_
 refine cond rfl ?_ ?_ <;> intro c10 <;> simp only [BS, ne_eq] at c10
 ·
  exact absurd hb0 c10
 refine seq <| region <| vM <| sv (fa38_0 rfl) <| vL rfl isAgg35 hS rfl <| sv (yIxa (m := 0) rfl har0 rfl runUnderlying35 sizeOf171 (by decide) (by omega)) <| sv (fa171_1 rfl) <| sv (yLd rfl isAgg3 ((hcr0.ext hS.ext).at (j := 1) rfl)) ?_
 refine scV hS call85 e3 c_bout fun w hS => ?_
 refine vA <| nil <| cwQ ?_
 refine cond rfl (fun c15 => ?_) (fun c15 => ?_)
 ·
  exfalso
  rw [hout] at c15
  cases c15
 refine skip <| cwQ <| seq <| region <| sv (yLdBA rfl isAgg38 sizeOf38 (hS.at _) rfl rfl) <| vM ?_
 refine scV hS call86 e2 (c_exact (h.ext hS.ext) hok hv) fun w hS => ?_
 refine sv (yIfaceG rfl underlying192 rfl) <| vA <| nil <| cwQ <| seq <| region <| vM ?_
 refine sinv rfl (m_span _) .nil call199 (c_span (by omega) (by omega) (by have h2 : (lvlS b v).hi = -(-exN b v / exD b v) := rfl; omega)) ?_
 rintro _ w ⟨rfl, hE⟩; replace hS := hS.step hE; clear hE
 refine sS hS rfl sizeOf69 fun w hS => ?_
 refine vA <| nil <| cwQ <| wp_ret ?_
 exact retV (resV2 rfl (rc rfl isAgg69 sizeOf69 (hS.at _) rfl rfl) (rt rfl)) hS.ext
theorem c_Volume {b : Bas} {cs : List Value} {l : Int} {w0 : World} (h : RBas w0 cs b) (hb0 : (checkB b).2.2 = 0) (hl : lvB b 0 ≤ l ∧ l ≤ 20000) : CV Tryz.prog 82 #[.agg cs.toArray, .int .i64 l] w0 (.tuple #[.int .i64 (volB b l), .int .i64 0]) := by
 obtain ⟨rv, pv, rfl, hsr, hlk, hcr, hov, hsp⟩ := id h
 obtain ⟨ar, cr, rfl, hrcap, hrmx, hrel⟩ := id hsr
 obtain ⟨ap, cp, rfl, hpcap, hpmx, hpel⟩ := id hsp
 have hok := check_ok hb0
 have hrl := hok.len
 obtain ⟨br0, or0, cr0, har0, hlr0, hcr0, hRr0, -⟩ := sl_at hsr (brow_get (b := b) (show 0 < b.rows.length by omega))
 obtain ⟨rfl, hr01, hr02⟩ := hRr0
 have hout : outB l (lvB b 0) 20000 = false := outB_false.2 hl
 unfold lvB at hout
 have hil := idB_lt hok l
 have ez1 := hok.lv (idB b l) (by omega)
 have ez2 := hok.lv ((idB b l) + 1) hil
 have ez3 := hok.vl (idB b l) (by omega)
 have ez4 := hok.vl ((idB b l) + 1) hil
 have ez5 := hok.lvs (idB b l) hil
 have ez6 := hok.vls (idB b l) hil
 have ez7 : lvB b (idB b l) ≤ l := idxL_lv b l hl.1 _
 refine enQ func82 rfl ntmps82 rfl fun hS => ?_
 refine seq <| region ?_
 refine sbox hS rfl rfl fun b2 w hS => ?_
 refine vA <| vA <| nil <| cwQ <| seq <| region <| sv (yLdBA rfl isAgg38 sizeOf38 (hS.at _) rfl rfl) ?_
 refine scV hS call84 e1 (c_valid (h.ext hS.ext)) fun w hS => ?_
 refine vA <| nil <| cwQ <| seq <| block <| seq <| region <| vM <| sv (yNeq rfl rfl) <| vA <| nil <| cwQ ?_
 refine cond rfl ?_ ?_ <;> intro c12 <;> simp only [BS, ne_eq] at c12
 ·
  exact absurd hb0 c12
 refine seq <| region <| vM <| sv (fa38_0 rfl) <| vL rfl isAgg35 hS rfl <| sv (yIxa (m := 0) rfl har0 rfl runUnderlying35 sizeOf171 (by decide) (by omega)) <| sv (fa171_0 rfl) <| sv (yLd rfl isAgg3 ((hcr0.ext hS.ext).at (j := 0) rfl)) ?_
 refine scV hS call85 e3 c_bout fun w hS => ?_
 refine vA <| nil <| cwQ ?_
 refine cond rfl (fun c16 => ?_) (fun c16 => ?_)
 ·
  exfalso
  rw [hout] at c16
  cases c16
 refine skip <| cwQ <| seq <| region <| sv (fa38_0 rfl) <| vL rfl isAgg35 hS rfl <| sv (yLen rfl underlying35) <| sv (ySubQ rfl rfl) <| vA <| nil <| cwQ <| seq <| block ?_
 refine loop (fun f w zz => ∃ (k : Nat), f 1 = .int .i64 l ∧ f 2 = ptQ b2 ∧ f 7 = .int .i64 (k : Int) ∧ StX [] w0 w [blk b2 [.slice ar b.rows.length cr, .int .i64 b.leak, .int .i64 b.crest, .int .i64 b.over, .slice ap b.pols.length cp] 38] ∧ (k ≤ b.rows.length - 2) ∧ ((idB b l) = idxL b l k) ∧ zz = k + 1) _ ⟨_, rfl, b.rows.length - 2, rfl, rfl, (rfl.trans (congrArg (Value.int .i64) (by omega))), hS, (Nat.le_refl _), (rfl), rfl⟩ ?_
 clear hS
 rintro f w _ ⟨k, h1, h2, h7, hS, hk, hI, rfl⟩
 refine seq <| seq <| region ?_
 obtain ⟨bk, ok, ck, hak, -, hck, hRk, -⟩ := sl_at hsr (brow_get (b := b) (show k < b.rows.length by omega))
 obtain ⟨rfl, -⟩ := hRk
 refine sv (fa38_0 h2) <| vL rfl isAgg35 hS rfl <| sv (yMove h7) <| sv (yIxQ rfl hak rfl runUnderlying35 sizeOf171) <| sv (fa171_0 rfl) <| sv (yLd rfl isAgg3 ((hck.ext hS.ext).at (j := 0) rfl)) <| sv (yMove h1) <| sv (yGtr rfl rfl) <| nil <| cwQ ?_
 refine cond rfl ?_ ?_ <;> intro c35 <;> simp only [BS, ne_eq] at c35
 ·
  have hcl0 : l < lvB b k := c35
  obtain ⟨m, rfl⟩ : ∃ m, k = m + 1 := ⟨k - 1, by rcases Nat.eq_zero_or_pos k with e | e; subst e; omega; omega⟩
  have hcl : l < lvB b (m + 1) := hcl0
  refine skip <| cwQ <| block <| region <| sv (yMove h7) <| sv (ySubQ rfl rfl) <| vA <| nil ?_
  exact ⟨_, _, rfl, ⟨m, h1, h2, (rfl.trans (congrArg (Value.int .i64) (by omega))), hS, (by omega), (hI.trans (idxL_down hcl)), rfl⟩, by omega⟩
 have hcl0 : ¬ l < lvB b k := c35
 rw [idxL_here (show lvB b k ≤ l by omega)] at hI
 obtain rfl : k = (idB b l) := hI.symm
 obtain ⟨bp, op, cp, hap, -, hcp, hRp, -⟩ := sl_at hsr (brow_get (b := b) (show (idB b l) < b.rows.length by omega))
 obtain ⟨rfl, -⟩ := hRp
 obtain ⟨bq, oq, cq, haq, -, hcq, hRq, -⟩ := sl_at hsr (brow_get (b := b) (show (idB b l) + 1 < b.rows.length by omega))
 obtain ⟨rfl, -⟩ := hRq
 refine exit <| cwQ ?_
 refine seqJ (n := 69) (fun f w => ∃ (b8 b9 : Nat), f 1 = .int .i64 l ∧ f 8 = ptQ b8 ∧ f 9 = ptQ b9 ∧ StX [] w0 w [blk b8 (browC (brow b (idB b l))) 171, blk b9 (browC (brow b ((idB b l) + 1))) 171] ∧ True) ?_ ?_
 ·
  refine rmQ (fun w => w.heap[b2]? = some (.cells ([.slice ar b.rows.length cr, .int .i64 b.leak, .int .i64 b.crest, .int .i64 b.over, .slice ap b.pols.length cp] : List Value).toArray 38 (0, 0))) (fun w => Ext w0 w) [] [] mixed hS ?_; clear hS; intro w hS
  refine mQ 0 rfl (fun w hS => fa38_0 h2) <| mq 1 1 [] (by kernel_rfl) rfl (hS.at b2) (fun w hS => yLdB rfl isAgg35 hS rfl) <| mQ 2 rfl (fun w hS => yMove h7) <| mQ 3 rfl (fun w hS => yIxQ rfl hap rfl runUnderlying35 sizeOf171) <| mq 2 4 [] (by kernel_rfl) rfl hS.ext (fun w hS => yLdA rfl isAgg171 sizeOf171 (hcp.ext hS) rfl) <| mQ 5 rfl (fun w hS => fa38_0 h2) <| mq 1 6 [] (by kernel_rfl) rfl (hS.at b2) (fun w hS => yLdB rfl isAgg35 hS rfl) <| mQ 7 rfl (fun w hS => yMove h7) <| mQ 8 rfl (fun w hS => yAddQ rfl rfl) <| mQ 9 rfl (fun w hS => yIxQ rfl haq rfl runUnderlying35 sizeOf171) <| mq 2 10 [] (by kernel_rfl) rfl hS.ext (fun w hS => yLdA rfl isAgg171 sizeOf171 (hcq.ext hS) rfl) ?_
  refine ms (i := 11) (is := [12]) (by kernel_rfl) ⟨⟨_, rfl, ?_⟩, ⟨_, rfl, ?_⟩, trivial⟩
  ·
   refine salloc hS zeroValue171 rfl fun b8 w hS => ?_
   refine nil ⟨⟨fun _ _ => (hS.at b2), fun _ _ => hS.ext⟩, mw ?_⟩
   refine m1Q 12 rfl ?_
   refine salloc hS zeroValue171 rfl fun b9 w hS => ?_
   refine nil ⟨⟨fun _ _ => (hS.at b2), fun _ _ => hS.ext⟩, mw ?_⟩
   refine m1Q 13 rfl ?_
   refine sS hS rfl sizeOf171 fun w hS => ?_
   refine nil ⟨⟨fun _ _ => (hS.at b2), fun _ _ => hS.ext⟩, mw ?_⟩
   refine m1Q 14 rfl ?_
   refine sS hS rfl sizeOf171 fun w hS => ?_
   refine nil ⟨⟨fun _ _ => (hS.at b2), fun _ _ => hS.ext⟩, mw ?_⟩
   refine me (by kernel_rfl) ?_
   exact ⟨_, rfl, b8, b9, h1, rfl, rfl, (by first | exact hS.sub (.cons_cons _ (.cons_cons _ (List.nil_sublist _))) | exact (hS.perm (.swap _ _ _)).sub (.cons_cons _ (.cons_cons _ (List.nil_sublist _)))), trivial⟩
  refine salloc hS zeroValue171 rfl fun b9 w hS => ?_
  refine nil ⟨⟨fun _ _ => (hS.at b2), fun _ _ => hS.ext⟩, mw ?_⟩
  refine m1Q 11 rfl ?_
  refine salloc hS zeroValue171 rfl fun b8 w hS => ?_
  refine nil ⟨⟨fun _ _ => (hS.at b2), fun _ _ => hS.ext⟩, mw ?_⟩
  refine m1Q 13 rfl ?_
  refine sS hS rfl sizeOf171 fun w hS => ?_
  refine nil ⟨⟨fun _ _ => (hS.at b2), fun _ _ => hS.ext⟩, mw ?_⟩
  refine m1Q 14 rfl ?_
  refine sS hS rfl sizeOf171 fun w hS => ?_
  refine nil ⟨⟨fun _ _ => (hS.at b2), fun _ _ => hS.ext⟩, mw ?_⟩
  refine me (by kernel_rfl) ?_
  exact ⟨_, rfl, b8, b9, h1, rfl, rfl, (by first | exact hS.sub (.cons_cons _ (.cons_cons _ (List.nil_sublist _))) | exact (hS.perm (.swap _ _ _)).sub (.cons_cons _ (.cons_cons _ (List.nil_sublist _)))), trivial⟩
 clear hS; rintro f w ⟨b8, b9, h1, h8, h9, hS, -⟩
 refine seq <| region_draw mixed (by kernel_rfl) hS ?_
 have hm0 : 0 ≤ (l - lvB b (idB b l)) * (vlB b ((idB b l) + 1) - vlB b (idB b l)) := Int.mul_nonneg (by omega) (by omega)
 have hm1 : (l - lvB b (idB b l)) * (vlB b ((idB b l) + 1) - vlB b (idB b l)) ≤ 40000 * 1000000000 := Int.mul_le_mul (by omega) (by omega) (by omega) (by decide)
 have hm2 : 0 ≤ (l - lvB b (idB b l)) * (vlB b ((idB b l) + 1) - vlB b (idB b l)) / (lvB b ((idB b l) + 1) - lvB b (idB b l)) := Int.ediv_nonneg hm0 (by omega)
 have hm3 : (l - lvB b (idB b l)) * (vlB b ((idB b l) + 1) - vlB b (idB b l)) / (lvB b ((idB b l) + 1) - lvB b (idB b l)) ≤ (l - lvB b (idB b l)) * (vlB b ((idB b l) + 1) - vlB b (idB b l)) := Int.ediv_le_self _ hm0
 simp only [lvB, vlB] at hm0 hm1 hm2 hm3 ez1 ez2 ez3 ez4 ez5 ez6 ez7
 refine qv (fun w hS => fa171_1 h8) <| qv (fun w hS => yLdB rfl isAgg3 (hS.at _) rfl) <| qv (fun w hS => yMove h1) <| qv (fun w hS => fa171_0 h8) <| qv (fun w hS => yLdB rfl isAgg3 (hS.at _) rfl) <| qv (fun w hS => ySubQ rfl rfl) <| qv (fun w hS => fa171_1 h9) <| qv (fun w hS => yLdB rfl isAgg3 (hS.at _) rfl) <| qv (fun w hS => fa171_1 h8) <| qv (fun w hS => yLdB rfl isAgg3 (hS.at _) rfl) <| qv (fun w hS => ySubQ rfl rfl) <| qv (fun w hS => yMul rfl rfl ⟨by omega, by omega⟩) <| qv (fun w hS => fa171_0 h9) ?_
 refine qv (fun w hS => yLdB rfl isAgg3 (hS.at _) rfl) <| qv (fun w hS => fa171_0 h8) <| qv (fun w hS => yLdB rfl isAgg3 (hS.at _) rfl) <| qv (fun w hS => ySubQ rfl rfl) <| qv (fun w hS => Y.to (yQuo rfl rfl (by omega) ⟨by omega, by omega⟩) (congrArg (Value.int .i64) (Int.tdiv_eq_ediv_of_nonneg hm0))) <| qv (fun w hS => yAddQ rfl rfl) <| qv (fun w hS => yMin rfl rfl) <| qv (fun w hS => yAsg rfl) <| qv (fun w hS => yAsg rfl) ?_
 clear hS; refine qnil (fun w hS => ?_)
 refine cwQ <| wp_ret ?_
 exact retV (res2 rfl rfl rfl) hS.ext
theorem c_Step {b : Bas} {cs : List Value} {s : BSt} {qs : List Value} {t : BTk} {w0 : World} (h : RBas w0 cs b) (h2 : RBst w0 qs s) (hb0 : (checkB b).2.2 = 0) (hso : BstOk b s) (hI : I64 t.outer ∧ I64 t.river ∧ I64 t.out) : CE Tryz.prog 83 #[.agg cs.toArray, .agg qs.toArray, .agg (btkC t).toArray] w0 (fun u w' => (stepE b s t ≠ 0 ∧ u = .tuple #[.agg (.int .i64 0 :: .slice none 0 0 :: []).toArray, .agg (.int .i64 0 :: .int .i64 0 :: .int .i64 0 :: .int .i64 0 :: .slice none 0 0 :: []).toArray, .int .i64 (stepE b s t)] ∧ Ext w0 w') ∨ (stepE b s t = 0 ∧ ∃ a1 n1 c1 a2 n2 c2 it, u = .tuple #[.agg (.int .i64 (bstS b s t).volume :: .slice a1 n1 c1 :: []).toArray, .agg (flC (stepF b s t) (.slice a2 n2 c2)).toArray, .int .i64 0] ∧ (∀ w, it.ok w → RBst w [.int .i64 (bstS b s t).volume, .slice a1 n1 c1] (bstS b s t) ∧ RBfl w (flC (stepF b s t) (.slice a2 n2 c2)) (stepF b s t)) ∧ StX [] w0 w' [it])) := by
 obtain ⟨rv, pv, rfl, hsr, hlk, hcr, hov, hsp⟩ := id h
 obtain ⟨ar, cr, rfl, hrcap, hrmx, hrel⟩ := id hsr
 obtain ⟨ap, cp, rfl, hpcap, hpmx, hpel⟩ := id hsp
 obtain ⟨fv, rfl, hsv, hsf, hsm⟩ := id h2
 obtain ⟨af, cf, rfl, hfcap, hfmx, hfel⟩ := id hsf
 have hok := check_ok hb0
 have hst := stB_0 hb0 hso
 refine enQ func83 rfl ntmps83 rfl fun hS => ?_
 refine seq <| region ?_
 refine sbox hS rfl rfl fun b3 w hS => ?_
 refine sbox hS rfl rfl fun b4 w hS => ?_
 refine sbox hS rfl rfl fun b5 w hS => ?_
 refine salloc hS zeroValue183 rfl fun b6 w hS => ?_
 refine salloc hS zeroValue185 rfl fun b7 w hS => ?_
 refine vA <| nil <| cwQ <| seq <| seq <| region <| sv (yLdBA rfl isAgg38 sizeOf38 (hS.at _) rfl rfl) <| sv (yLdBA rfl isAgg183 sizeOf183 (hS.at _) rfl rfl) ?_
 refine scV hS call121 e2 (c_CheckState (h.ext hS.ext) (h2.ext hS.ext)) fun w hS => ?_
 refine vA <| nil <| cwQ <| seq <| region <| vM <| sv (yNeq rfl rfl) <| nil <| cwQ ?_
 refine cond rfl ?_ ?_ <;> intro c14 <;> simp only [BS, ne_eq] at c14
 ·
  exact absurd hst c14
 refine skip <| cwQ <| seq <| region <| sv (yLdBA rfl isAgg38 sizeOf38 (hS.at _) rfl rfl) <| sv (yLdBA rfl isAgg183 sizeOf183 (hS.at _) rfl rfl) <| sv (yLdBA rfl isAgg189 sizeOf189 (hS.at _) rfl rfl) ?_
 refine scall call122 e3 (c_step (h.ext hS.ext) (h2.ext hS.ext) hok hso hI) ?_
 rintro _ w (⟨he, rfl, hE⟩ | ⟨he, a1, n1, c1, a2, n2, c2, it, rfl, hit, hM⟩)
 ·
  replace hS := hS.step hE; clear hE
  refine sv (yExt rfl rfl) <| sv (yExt rfl rfl) <| sv (yExt rfl rfl) ?_
  refine sS hS rfl sizeOf183 fun w hS => ?_
  refine sS hS rfl sizeOf185 fun w hS => ?_
  refine vA <| nil <| cwQ <| wp_ret <| retQ (resV3 rfl (rc rfl isAgg183 sizeOf183 (hS.at _) rfl rfl) (rc rfl isAgg185 sizeOf185 (hS.at _) rfl rfl) (rt rfl)) ?_
  exact .inl ⟨he, rfl, hS.ext⟩
 replace hS := hS.call1 hM; clear hM
 refine sv (yExt rfl rfl) <| sv (yExt rfl rfl) <| sv (yExt rfl rfl) ?_
 refine sS hS rfl sizeOf183 fun w hS => ?_
 refine sS hS rfl sizeOf185 fun w hS => ?_
 refine vA <| nil <| cwQ <| wp_ret <| retQ (resV3 rfl (rc rfl isAgg183 sizeOf183 (hS.at _) rfl rfl) (rc rfl isAgg185 sizeOf185 (hS.at _) rfl rfl) (rt rfl)) ?_
 exact .inr ⟨he, a1, n1, c1, a2, n2, c2, it, rfl, hit, hS.sub (.cons_cons _ (List.nil_sublist _))⟩
end Go.Proofs.YtchbdfcbogjhcaaGreatDoor
namespace Bx
open Go Go.RowKit
structure Clt where
 bas : Bas
 filled : List Int
 hist : List Ser
 river : List Int
 out : Int
 limit : Int
 delay : Int
structure Pln where
 close : Int
 opn : Int
deriving DecidableEq
def RClt (w : World) (cs : List Value) (c : Clt) : Prop := ∃ rv pv fv hv iv, cs = [rv, .int .i64 c.bas.leak, .int .i64 c.bas.crest, .int .i64 c.bas.over, pv, fv, hv, iv, .int .i64 c.out, .int .i64 c.limit, .int .i64 c.delay] ∧
 RBas w [rv, .int .i64 c.bas.leak, .int .i64 c.bas.crest, .int .i64 c.bas.over, pv] c.bas ∧ Sl w 1 RInt fv c.filled ∧ Room c.filled.length 8 ∧ Sl w 2 RSer hv c.hist ∧ Sl w 1 RInt iv c.river ∧ I64 c.out ∧ I64 c.limit ∧ I64 c.delay
theorem RClt.stays : Stays RClt := fun _ _ _ _ e ⟨rv, pv, fv, hv, iv, h1, h2, h3, h4, h5, h6, h7⟩ => ⟨rv, pv, fv, hv, iv, h1, h2.ext e, h3.ext RInt.stays e, h4, h5.ext RSer.stays e, h6.ext RInt.stays e, h7⟩
theorem RClt.ext {w w' : World} {cs : List Value} {c : Clt} (h : RClt w cs c) (e : Ext w w') : RClt w' cs c := RClt.stays _ _ _ _ e h
def plnC (p : Pln) : List Value := [.int .i64 p.close, .int .i64 p.opn]
section
variable (c : Clt)
def hsS (k : Nat) : Ser := c.hist.getD k ⟨0, []⟩
def hsV (k : Nat) : List Int := (hsS c k).vals
def frC : Int := (hsS c 0).frm
def nC : Nat := (hsV c 0).length
def histE (i : Nat) : Int := if (hsS c i).frm ≠ frC c ∨ (hsV c i).length ≠ nC c then 2 else if (outB (hsS c i).frm 0 (200000 - nC c + 1) || (hsV c i).any fun v => outB v (-20000) 20000) = true then 7 else 0
def filE (i : Nat) : Bool := outB (flB c.filled i) 0 (plB c.bas i).room
def chkE : Int :=
 if (checkB c.bas).2.2 ≠ 0 then (checkB c.bas).2.2
 else if (outB c.hist.length 1 8 || outB (nC c) 1 60) = true then 3
 else if (firstN (histE c) c.hist.length 0).2 ≠ 0 then (firstN (histE c) c.hist.length 0).2
 else if c.river.length ≠ nC c then 2
 else if (c.river.any fun v => outB v 0 10000000) = true then 7
 else if c.filled.length ≠ c.bas.pols.length then 2
 else if (outB c.out 0 10000000 || outB c.limit (lvB c.bas 0) 20000 || outB c.delay 0 30) = true then 7
 else if ((List.range c.filled.length).any (filE c)) = true then 7 else 0
structure ClOk : Prop where
 bas : BasOk c.bas
 chk : (checkB c.bas).2.2 = 0
 nh : 1 ≤ c.hist.length ∧ c.hist.length ≤ 8
 n : 1 ≤ nC c ∧ nC c ≤ 60
 his : ∀ i, i < c.hist.length → (hsS c i).frm = frC c ∧ (hsV c i).length = nC c ∧ ∀ v ∈ hsV c i, Bd v (-20000) 20000
 frm : 0 ≤ frC c ∧ frC c ≤ 200000
 frn : frC c ≤ 200000 - nC c + 1
 riv : c.river.length = nC c ∧ ∀ v ∈ c.river, Bd v 0 10000000
 len : c.filled.length = c.bas.pols.length
 out : Bd c.out 0 10000000
 lim : lvB c.bas 0 ≤ c.limit ∧ c.limit ≤ 20000
 del : Bd c.delay 0 30
 fil : ∀ i, i < c.bas.pols.length → 0 ≤ flB c.filled i ∧ flB c.filled i ≤ (plB c.bas i).room
end
theorem cl_ok {c : Clt} (h : chkE c = 0) : ClOk c := by
 unfold chkE at h
 split at h
 next h1 => exact absurd h h1
 next h1 =>
 split at h
 ·
  simp at h
 next h2 =>
 split at h
 next h3 => exact absurd h h3
 next h3 =>
 split at h
 ·
  simp at h
 next h4 =>
 split at h
 ·
  simp at h
 next h5 =>
 split at h
 ·
  simp at h
 next h6 =>
 split at h
 ·
  simp at h
 next h7 =>
 split at h
 ·
  simp at h
 next h8 =>
 simp only [Bool.not_eq_true, Bool.or_eq_false_iff, outB_false] at h2 h7
 have hh := firstN_ok (Decidable.not_not.1 h3)
 have hist : ∀ i, i < c.hist.length → (hsS c i).frm = frC c ∧ (hsV c i).length = nC c ∧ (0 ≤ (hsS c i).frm ∧ (hsS c i).frm ≤ 200000 - nC c + 1) ∧ ∀ v ∈ hsV c i, Bd v (-20000) 20000 := fun i hi => by
  have h0 := hh i (Nat.zero_le _) (by omega)
  unfold histE at h0
  split at h0
  ·
   simp at h0
  next k1 =>
  split at h0
  ·
   simp at h0
  next k2 =>
  simp only [Bool.not_eq_true, Bool.or_eq_false_iff, outB_false] at k2
  refine ⟨Decidable.byContradiction fun e => k1 (.inl e), Decidable.byContradiction fun e => k1 (.inr e), k2.1, fun v hv => ?_⟩
  have := List.any_eq_false.1 k2.2 v hv
  simpa only [Bool.not_eq_true, outB_false] using this
 have hb := check_ok (Decidable.not_not.1 h1)
 refine ⟨hb, Decidable.not_not.1 h1, by omega, by omega, fun i hi => ⟨(hist i hi).1, (hist i hi).2.1, (hist i hi).2.2.2⟩, ?_, ?_, ⟨Decidable.not_not.1 h4, fun v hv => ?_⟩, Decidable.not_not.1 h6, h7.1.1, h7.1.2, h7.2, fun i hi => ?_⟩
 ·
  have := (hist 0 (by omega)).2.2.1
  show 0 ≤ (hsS c 0).frm ∧ (hsS c 0).frm ≤ 200000
  omega
 ·
  exact (hist 0 (by omega)).2.2.1.2
 ·
  have := List.any_eq_false.1 (by simpa using h5) v hv
  simpa only [Bool.not_eq_true, outB_false] using this
 ·
  have hl : c.filled.length = c.bas.pols.length := Decidable.not_not.1 h6
  have := List.any_eq_false.1 (by simpa using h8) i (List.mem_range.2 (by omega))
  unfold filE at this
  simpa only [Bool.not_eq_true, outB_false] using this
section
variable (c : Clt)
def lastHi (lim : Int) (l : List Int) : Nat → Nat
 | 0 => 0
 | k + 1 => if lim < l.getD k 0 then k + 1 else lastHi lim l k
def quietK (m : Nat) : Nat := (List.range m).foldl (fun q k => max q (lastHi c.limit (hsV c k) (hsV c k).length)) 0
def quietC : Nat := quietK c c.hist.length
def tkC (k i : Nat) : BTk := ⟨(hsV c k).getD i 0, c.river.getD i 0, c.out⟩
def vol0 (k s : Nat) : Int := volB c.bas (max ((hsV c k).getD s 0) (lvB c.bas 0))
def volsR (k : Nat) : Nat → Nat → BSt → List Int
 | 0, _, _ => []
 | m + 1, i, s => if stepE c.bas s (tkC c k i) ≠ 0 then [] else (bstS c.bas s (tkC c k i)).volume :: volsR k m (i + 1) (bstS c.bas s (tkC c k i))
def volsC (k s : Nat) : List Int := vol0 c k s :: volsR c k (nC c - 1 - s) s ⟨vol0 c k s, c.filled⟩
def neverP : Pln := ⟨-1, -1⟩
def opnC (p : Pln) (i : Int) : Bool := decide (p = neverP) || (decide (i ≤ p.close - frC c + c.delay) || decide (p.opn - frC c ≤ i))
def inC (k : Nat) (p : Pln) (i : Nat) : Option Span :=
 if opnC c p i = true then some ⟨(hsV c k).getD i 0, (hsV c k).getD i 0⟩
 else if ((volsC c k (p.close - frC c + c.delay).toNat).length : Int) ≤ i - (p.close - frC c + c.delay) then none
 else some (lvlS c.bas ((volsC c k (p.close - frC c + c.delay).toNat).getD (i - (p.close - frC c + c.delay)).toNat 0))
def aboveC (k : Nat) (p : Pln) (i : Nat) : Bool := match inC c k p i with
 | none => true
 | some s => decide (c.limit < s.hi)
def failK (k : Nat) (p : Pln) : Nat → Nat → Int
 | 0, _ => -1
 | m + 1, i => if aboveC c k p i = true then i else failK k p m (i + 1)
def failC (k : Nat) (p : Pln) : Int := failK c k p c.river.length 0
def lastC : Int := nC c - 1 - c.delay
def planC (i : Int) : Pln := ⟨frC c + i, frC c + max (quietC c : Int) (i + c.delay + 1)⟩
def strC (p : Pln) : Bool := decide (p ≠ neverP) && (outB p.close (frC c) (frC c + lastC c) || outB p.opn (p.close + c.delay + 1) (frC c + nC c))
def withE (r : Int × Int) : Int := if chkE c ≠ 0 then chkE c else if (outB r.1 1 8 || outB r.2 0 60) = true then 7 else 0
def firstHi (lim : Int) : List Int → Nat → Int
 | [], _ => -1
 | v :: l, i => if lim < v then i else firstHi lim l (i + 1)
def fhC (k : Nat) : Int := firstHi c.limit (hsV c k) 0
def highK (m : Nat) : List Int := ((List.range m).filter fun k => decide (0 ≤ fhC c k)).map fun k => ((k : Nat) : Int)
def firstK (m : Nat) : Int := (List.range m).foldl (fun q k => if 0 ≤ fhC c k then min q (fhC c k) else q) (nC c)
def calledC (r : Int × Int) : Bool := decide (r.1 ≤ ((highK c c.hist.length).length : Int))
def fromC (r : Int × Int) : Int := max 0 (firstK c c.hist.length - r.2)
def mayC (r : Int × Int) (i : Int) : Bool := calledC c r && !outB i (fromC c r) (lastC c)
def witC (i : Int) : Bool := (List.range c.hist.length).any fun k => decide (0 ≤ failC c k (planC c i))
def decK (r : Int × Int) : Nat → Nat → Pln × Nat × Int
 | 0, m => (⟨0, 0⟩, 0, 9)
 | i + 1, m => if witC c i = true then decK r i (m + 1) else if mayC c r i = true then (planC c i, m, 0) else (⟨0, 0⟩, 0, 9)
def decR (r : Int × Int) : Pln × Nat × Int := if withE c r ≠ 0 then (⟨0, 0⟩, 0, withE c r) else if calledC c r = true then decK c r (lastC c + 1).toNat 0 else (neverP, 0, 0)
def holdE (p : Pln) : Int := if chkE c ≠ 0 then chkE c else if strC c p = true then 7 else 0
def holdR (p : Pln) : List Bool × Int := if holdE c p ≠ 0 then ([], holdE c p) else ((List.range c.hist.length).map fun k => decide (failC c k p < 0), 0)
def innK (k : Nat) (p : Pln) : Nat → Nat → Option (List Span)
  | 0, _ => some []
  | m + 1, i => match inC c k p i with
    | none => none
    | some s => (innK k p m (i + 1)).map (s :: ·)
def innE (k : Int) (p : Pln) : Int := if chkE c ≠ 0 then chkE c else if outB k 0 (c.hist.length - 1) = true then 4 else if strC c p = true then 7 else 0
def innR (k : Int) (p : Pln) : List Span × Int := if innE c k p ≠ 0 then ([], innE c k p) else match innK c k.toNat p (nC c) 0 with
 | none => ([], 3)
 | some l => (l, 0)
def lastK : Nat → Int × Int
 | 0 => (0, 9)
 | i + 1 => if failC c 0 (planC c i) < 0 then (frC c + i, 0) else lastK i
end
def aloneC (c : Clt) (k : Int) : Clt := { c with hist := [hsS c k.toNat] }
def lastR (c : Clt) (k : Int) : Int × Int :=
 if chkE c ≠ 0 then (0, chkE c) else if outB k 0 (c.hist.length - 1) = true then (0, 4) else if chkE (aloneC c k) ≠ 0 then (0, chkE (aloneC c k)) else lastK (aloneC c k) (lastC (aloneC c k) + 1).toNat
section
variable {c : Clt}
theorem failK_iff {k : Nat} {p : Pln} : ∀ (m i : Nat), failK c k p m i < 0 ↔ ∀ j, i ≤ j → j < i + m → aboveC c k p j = false
  | 0, i => ⟨fun _ j h1 h2 => by omega, fun _ => (by decide : (-1 : Int) < 0)⟩
  | m + 1, i => by
    rw [failK]
    cases ha : aboveC c k p i with
    | true =>
      rw [if_pos rfl]
      refine ⟨fun h => by omega, fun h => ?_⟩
      have := h i (Nat.le_refl _) (by omega)
      rw [ha] at this; cases this
    | false =>
      rw [if_neg (by decide), failK_iff m (i + 1)]
      refine ⟨fun h j h1 h2 => ?_, fun h j h1 h2 => h j (by omega) (by omega)⟩
      by_cases e : j = i
      · rw [e]; exact ha
      · exact h j (by omega) (by omega)
theorem fail_iff {k : Nat} {p : Pln} : failC c k p < 0 ↔ ∀ j, j < c.river.length → aboveC c k p j = false := by
 unfold failC
 rw [failK_iff]
 exact ⟨fun h j hj => h j (Nat.zero_le _) (by omega), fun h j _ hj => h j (by omega)⟩
theorem above_no {k : Nat} {p : Pln} {j : Nat} : aboveC c k p j = false ↔ ∃ s, inC c k p j = some s ∧ s.hi ≤ c.limit := by
 unfold aboveC
 cases h : inC c k p j with
 | none => simp
 | some s => simp
theorem lastHi_le (lim : Int) (l : List Int) : ∀ n, lastHi lim l n ≤ n
  | 0 => Nat.le_refl _
  | k + 1 => by rw [lastHi]; split; · exact Nat.le_refl _
                · exact Nat.le_succ_of_le (lastHi_le lim l k)
theorem lastHi_at (lim : Int) (l : List Int) : ∀ n, 0 < lastHi lim l n → lim < l.getD (lastHi lim l n - 1) 0
  | 0, h => absurd h (Nat.lt_irrefl 0)
  | k + 1, h => by
    rw [lastHi] at h ⊢
    split
    · assumption
    · next hc => rw [if_neg hc] at h; exact lastHi_at lim l k h
theorem lastHi_gt (lim : Int) (l : List Int) : ∀ n i, lastHi lim l n ≤ i → i < n → l.getD i 0 ≤ lim
  | 0, i, h1, h2 => by omega
  | k + 1, i, h1, h2 => by
    rw [lastHi] at h1
    split at h1
    · omega
    · next hc =>
      by_cases e : i = k
      · rw [e]; omega
      · exact lastHi_gt lim l k i h1 (by omega)
theorem quietK_succ {m : Nat} : quietK c (m + 1) = max (quietK c m) (lastHi c.limit (hsV c m) (hsV c m).length) := by
 unfold quietK; rw [List.range_succ, List.foldl_append]; rfl
theorem quietK_ge : ∀ (m k : Nat), k < m → lastHi c.limit (hsV c k) (hsV c k).length ≤ quietK c m
  | 0, k, h => by omega
  | m + 1, k, h => by
    rw [quietK_succ]
    by_cases e : k = m
    · rw [e]; omega
    · have := quietK_ge m k (by omega); omega
theorem quietK_at : ∀ (m : Nat), 0 < quietK c m → ∃ k, k < m ∧ quietK c m = lastHi c.limit (hsV c k) (hsV c k).length
  | 0, h => absurd h (Nat.lt_irrefl 0)
  | m + 1, h => by
    rw [quietK_succ] at h ⊢
    by_cases e : quietK c m ≤ lastHi c.limit (hsV c m) (hsV c m).length
    · exact ⟨m, by omega, by omega⟩
    · obtain ⟨k, hk, he⟩ := quietK_at m (by omega)
      exact ⟨k, by omega, by omega⟩
variable (h : ClOk c)
include h
theorem quiet_le : quietC c ≤ nC c := by
 rcases Nat.eq_zero_or_pos (quietC c) with e | e
 ·
  omega
 ·
  obtain ⟨k, hk, he⟩ := quietK_at (c := c) _ e
  have := lastHi_le c.limit (hsV c k) (hsV c k).length
  have := (h.his k hk).2.1
  unfold quietC; omega
theorem quiet_in {k i : Nat} (hk : k < c.hist.length) (hi : quietC c ≤ i) (hn : i < nC c) : (hsV c k).getD i 0 ≤ c.limit := by
 have h1 := quietK_ge (c := c) _ _ hk
 unfold quietC at hi
 exact lastHi_gt c.limit (hsV c k) (hsV c k).length i (by omega) (by rw [(h.his k hk).2.1]; exact hn)
theorem plan_str {i : Int} (h0 : 0 ≤ i) (hl : i ≤ lastC c) : strC c (planC c i) = false := by
 have hq := quiet_le h
 have hd := h.del
 have hf := h.frm
 unfold lastC at hl
 unfold strC
 rw [Bool.and_eq_false_iff]
 refine .inr ?_
 rw [Bool.or_eq_false_iff, outB_false, outB_false]
 unfold planC lastC
 dsimp only
 omega
theorem later_holds {q : Pln} {k : Nat} (hk : k < c.hist.length) (hs : strC c q = false) (h0 : 0 ≤ q.close) (hq : ∀ k, k < c.hist.length → failC c k q < 0) : failC c k (planC c (q.close - frC c)) < 0 := by
  have hne : q ≠ neverP := fun e => by rw [e] at h0; exact absurd h0 (by decide)
  unfold strC at hs
  rw [decide_eq_true hne, Bool.true_and, Bool.or_eq_false_iff, outB_false, outB_false] at hs
  obtain ⟨s1, s2⟩ := hs
  have hf := h.frm
  have hd := h.del
  have hn := h.n
  have hr := h.riv.1
  have hqo : (quietC c : Int) ≤ q.opn - frC c := by
    apply Decidable.byContradiction
    intro hc
    have hpos : 0 < quietC c := by omega
    obtain ⟨k0, hk0, he⟩ := quietK_at (c := c) _ hpos
    have ha := lastHi_at c.limit (hsV c k0) (hsV c k0).length (by rw [← he]; exact hpos)
    have hle := lastHi_le c.limit (hsV c k0) (hsV c k0).length
    have hln := (h.his k0 hk0).2.1
    rw [← he] at ha hle
    have hab := fail_iff.1 (hq k0 hk0) (quietC c - 1) (by unfold quietC at *; omega)
    obtain ⟨s, e1, e2⟩ := above_no.1 hab
    unfold inC at e1
    rw [if_pos (by
      unfold opnC
      rw [decide_eq_false hne, Bool.false_or, Bool.or_eq_true, decide_eq_true_eq, decide_eq_true_eq]
      exact .inr (by omega))] at e1
    cases e1
    have : c.limit < (hsV c k0).getD (quietC c - 1) 0 := ha
    dsimp only at e2
    omega
  refine fail_iff.2 fun j hj => ?_
  have hjq := fail_iff.1 (hq k hk) j hj
  rw [hr] at hj
  have hpn : planC c (q.close - frC c) ≠ neverP := fun e => by have : frC c + (q.close - frC c) = -1 := congrArg Pln.close e; omega
  have hclose : (planC c (q.close - frC c)).close = q.close := by show frC c + (q.close - frC c) = q.close; omega
  have hopn : (planC c (q.close - frC c)).opn = frC c + max (quietC c : Int) (q.close - frC c + c.delay + 1) := rfl
  by_cases ho : opnC c (planC c (q.close - frC c)) j = true
  · refine above_no.2 ⟨_, by unfold inC; rw [if_pos ho], ?_⟩
    unfold opnC at ho
    rw [decide_eq_false hpn, Bool.false_or, Bool.or_eq_true, decide_eq_true_eq, decide_eq_true_eq, hclose, hopn] at ho
    dsimp only
    rcases ho with ho | ho
    · obtain ⟨s, e1, e2⟩ := above_no.1 hjq
      unfold inC at e1
      rw [if_pos (by unfold opnC; rw [decide_eq_false hne, Bool.false_or, Bool.or_eq_true, decide_eq_true_eq, decide_eq_true_eq]; exact .inl ho)] at e1
      cases e1
      exact e2
    · exact quiet_in h hk (by omega) (by omega)
  · have hoq : ¬ opnC c q j = true := fun k => by
      apply ho
      unfold opnC at k ⊢
      rw [decide_eq_false hne, Bool.false_or, Bool.or_eq_true, decide_eq_true_eq, decide_eq_true_eq] at k
      rw [decide_eq_false hpn, Bool.false_or, Bool.or_eq_true, decide_eq_true_eq, decide_eq_true_eq, hclose, hopn]
      omega
    have : inC c k (planC c (q.close - frC c)) j = inC c k q j := by
      unfold inC
      rw [if_neg ho, if_neg hoq, hclose]
    unfold aboveC at hjq ⊢
    rw [this]
    exact hjq
omit h in
theorem decK_ok {r : Int × Int} : ∀ (i m : Nat) {p : Pln} {m' : Nat}, decK c r i m = (p, m', 0) → ∃ j : Nat, j < i ∧ p = planC c j ∧ witC c j = false ∧ ∀ q : Nat, j < q → q < i → witC c q = true
  | 0, m, p, m', e => by simp [decK] at e
  | i + 1, m, p, m', e => by
    rw [decK] at e
    cases hw : witC c i with
    | true =>
      rw [hw, if_pos rfl] at e
      obtain ⟨j, h1, h2, h3, h4⟩ := decK_ok i (m + 1) e
      refine ⟨j, by omega, h2, h3, fun q hq1 hq2 => ?_⟩
      by_cases eq : q = i
      · rw [eq]; exact hw
      · exact h4 q hq1 (by omega)
    | false =>
      rw [hw, if_neg (by decide)] at e
      split at e
      · obtain ⟨e1, -⟩ := Prod.mk.inj e
        exact ⟨i, by omega, e1.symm, hw, fun q h1 h2 => by omega⟩
      · simp at e
omit h in
theorem dec_ok {r : Int × Int} {p : Pln} {m' : Nat} (e : decR c r = (p, m', 0)) (hp : 0 ≤ p.close) : ClOk c ∧ ∃ j : Nat, (j : Int) ≤ lastC c ∧ p = planC c j ∧ witC c j = false ∧ ∀ q : Nat, j < q → (q : Int) ≤ lastC c → witC c q = true := by
 unfold decR at e
 split at e
 next h1 => exact absurd (congrArg (fun x => x.2.2) e) h1
 next h1 =>
 have hw : withE c r = 0 := Decidable.not_not.1 h1
 have hc : chkE c = 0 := by
  unfold withE at hw
  split at hw
  next k => exact absurd hw k
  next k => exact Decidable.not_not.1 k
 split at e
 ·
  obtain ⟨j, k1, k2, k3, k4⟩ := decK_ok _ _ e
  exact ⟨cl_ok hc, j, by omega, k2, k3, fun q q1 q2 => k4 q q1 (by omega)⟩
 ·
  obtain ⟨e1, -⟩ := Prod.mk.inj e
  rw [← e1] at hp
  exact absurd hp (by decide)
omit h in
theorem no_later {r : Int × Int} {p q : Pln} {m' : Nat} (e : decR c r = (p, m', 0)) (hp : 0 ≤ p.close) (hq : p.close < q.close) (he : holdE c q = 0) : ∃ k, k < c.hist.length ∧ ¬ failC c k q < 0 := by
 obtain ⟨h, j, j1, j2, j3, j4⟩ := dec_ok e hp
 apply Decidable.byContradiction
 intro hc
 have hall : ∀ k, k < c.hist.length → failC c k q < 0 := fun k hk => Decidable.byContradiction fun hk2 => hc ⟨k, hk, hk2⟩
 unfold holdE at he
 split at he
 next k => exact absurd he k
 split at he
 ·
  simp at he
 next hs =>
 have hs : strC c q = false := by simpa using hs
 have hl := later_holds (q := q)  h (k := 0)
 have hne : q ≠ neverP := fun e2 => by rw [e2] at hq; have : p.close < -1 := hq; omega
 have hs2 := hs
 unfold strC at hs2
 rw [decide_eq_true hne, Bool.true_and, Bool.or_eq_false_iff, outB_false, outB_false] at hs2
 have hpc : p.close = frC c + j := by rw [j2]; rfl
 have hw := j4 (q.close - frC c).toNat (by omega) (by omega)
 unfold witC at hw
 obtain ⟨k, hk, hk2⟩ := List.any_eq_true.1 hw
 have hk := List.mem_range.1 hk
 have := later_holds h hk hs (by omega) hall
 rw [show (((q.close - frC c).toNat : Nat) : Int) = q.close - frC c by omega] at hk2
 have := of_decide_eq_true hk2
 omega
end
theorem stepE_le {b : Bas} (h : BasOk b) {s s' : BSt} {t t' : BTk} (hs : BstOk b s) (hs' : BstOk b s') (hl : LeS b s s') (hlt : LeT t t') (ht : TkOk t) (he' : stepE b s' t' = 0) : stepE b s t = 0 := by
 obtain ⟨j1, j2, j3, j4⟩ := stepE_ok he'
 have ht' := tk_ok j1
 have ho : ovB b t ≤ ovB b t' := Int.mul_le_mul_of_nonneg_left (by have := hlt.outer; omega) h.over.1
 have b1 : v1B s t ≤ v1B s' t' := by have := hl.vol; have := hlt.river; unfold v1B; omega
 have b2 : v2B b s t ≤ v2B b s' t' := by unfold v2B; omega
 have b3 : v3B b s t ≤ v3B b s' t' := leak_mono h (v2_bd h hs ht).1 b2 hlt.outer
 have hb : tkBad t = false := by
  unfold tkBad
  rw [outB_false.2 ht.outer, outB_false.2 ht.river, outB_false.2 ht.out]; rfl
 unfold stepE
 rw [if_neg (by rw [hb]; decide), if_neg (by omega), if_neg (by omega), if_neg (by omega)]
theorem volsR_le {c c' : Clt} {k : Nat} (h : ClOk c) (hb : c'.bas = c.bas) (hlt : ∀ i, LeT (tkC c' 0 i) (tkC c k i)) (ht : ∀ i, TkOk (tkC c' 0 i)) : ∀ (m i : Nat) (s' s : BSt), BstOk c.bas s' → BstOk c.bas s → LeS c.bas s' s → (volsR c k m i s).length ≤ (volsR c' 0 m i s').length ∧ ∀ j, j < (volsR c k m i s).length → (volsR c' 0 m i s').getD j 0 ≤ (volsR c k m i s).getD j 0 ∧ vlB c.bas 0 ≤ (volsR c' 0 m i s').getD j 0
  | 0, _, _, _, _, _, _ => ⟨Nat.le_refl _, fun j hj => absurd hj (Nat.not_lt_zero _)⟩
  | m + 1, i, s', s, hs', hs, hl => by
    rw [volsR, volsR, hb]
    by_cases he : stepE c.bas s (tkC c k i) = 0
    · have he' := stepE_le h.bas hs' hs hl (hlt i) (ht i) he
      rw [if_neg (fun k => k he), if_neg (fun k => k he')]
      have o1 := stepE_ok he
      have o2 := stepE_ok he'
      have k1 := step_st h.bas hs (tk_ok o1.1) o1.2.2.1 o1.2.2.2
      have k2 := step_st h.bas hs' (tk_ok o2.1) o2.2.2.1 o2.2.2.2
      have km := step_mono h.bas hs' hs hl (hlt i) he' he
      obtain ⟨r1, r2⟩ := volsR_le h hb hlt ht m (i + 1) _ _ k2 k1 km
      refine ⟨by simp only [List.length_cons]; omega, fun j hj => ?_⟩
      cases j with
      | zero => exact ⟨km.vol, k2.vol.1⟩
      | succ j =>
        have := r2 j (by simp only [List.length_cons] at hj; omega)
        simpa using this
    · rw [if_pos he]
      exact ⟨Nat.zero_le _, fun j hj => absurd hj (Nat.not_lt_zero _)⟩
def soloC (c : Clt) (o : Ser) : Clt := { c with hist := [o] }
section
variable {c : Clt} {o : Ser} (h : ClOk c) (hf : o.frm = frC c) (hl : o.vals.length = nC c) (hv : ∀ v ∈ o.vals, Bd v (-20000) 20000)
include h hf hl hv
theorem one_ok : chkE (soloC c o) = 0 := by
  have hn : nC (soloC c o) = nC c := hl
  have hfr : frC (soloC c o) = frC c := hf
  have d := h.del
  unfold chkE
  rw [if_neg (show ¬ (checkB (soloC c o).bas).2.2 ≠ 0 from fun k => k h.chk), hn, if_neg, if_neg, if_neg (show ¬ (soloC c o).river.length ≠ nC c from fun k => k h.riv.1), if_neg (show ¬ ((soloC c o).river.any fun v => outB v 0 10000000) = true from fun k => by
    obtain ⟨v, hv, hv2⟩ := List.any_eq_true.1 k
    rw [outB_false.2 (h.riv.2 v hv)] at hv2; cases hv2), if_neg (show ¬ (soloC c o).filled.length ≠ (soloC c o).bas.pols.length from fun k => k h.len), if_neg, if_neg]
  · intro k
    obtain ⟨i, hi, hi2⟩ := List.any_eq_true.1 k
    have hi := List.mem_range.1 hi
    have hx : filE (soloC c o) i = false := outB_false.2 (h.fil i (by have := h.len; have : i < c.filled.length := hi; omega))
    rw [hx] at hi2; cases hi2
  · show ¬ (outB c.out 0 10000000 || outB c.limit (lvB c.bas 0) 20000 || outB c.delay 0 30) = true
    rw [outB_false.2 h.out, outB_false.2 h.lim, outB_false.2 h.del]; decide
  · have h0 : histE (soloC c o) 0 = 0 := by
      unfold histE
      rw [if_neg (fun k => by rcases k with k | k; exact k rfl; exact k rfl), if_neg]
      have e1 : outB (hsS (soloC c o) 0).frm 0 (200000 - nC (soloC c o) + 1) = false := outB_false.2 (by
        show 0 ≤ o.frm ∧ o.frm ≤ 200000 - (nC (soloC c o) : Int) + 1
        rw [hn, hf]
        have := h.frn
        have := h.frm
        omega)
      have e2 : ((hsV (soloC c o) 0).any fun v => outB v (-20000) 20000) = false := List.any_eq_false.2 fun v hv2 => by
        rw [outB_false.2 (hv v hv2)]; decide
      rw [e1, e2]; decide
    show ¬ (firstN (histE (soloC c o)) 1 0).2 ≠ 0
    rw [firstN_step h0]
    exact fun k => k rfl
  · show ¬ (outB ((1 : Nat) : Int) 1 8 || outB (nC c) 1 60) = true
    rw [outB_false.2 (show (1 : Int) ≤ ((1 : Nat) : Int) ∧ ((1 : Nat) : Int) ≤ 8 by omega), outB_false.2 (show (1 : Int) ≤ (nC c : Int) ∧ (nC c : Int) ≤ 60 by have := h.n; omega)]; decide
end
theorem getD_bd0 {l : List Int} {lo hi : Int} (h : ∀ v ∈ l, Bd v lo hi) (h0 : Bd 0 lo hi) (i : Nat) : Bd (l.getD i 0) lo hi := by
 by_cases hi : i < l.length
 ·
  rw [List.getD_eq_getElem?_getD, List.getElem?_eq_getElem hi]
  exact h _ (List.getElem_mem hi)
 ·
  rw [List.getD_eq_getElem?_getD, List.getElem?_eq_none (by omega)]
  exact h0
section
variable {c : Clt} {o : Ser} (h : ClOk c) (hf : o.frm = frC c) (hl : o.vals.length = nC c) (hv : ∀ v ∈ o.vals, Bd v (-20000) 20000) {k : Nat} (hk : k < c.hist.length) (hle : ∀ i, i < nC c → o.vals.getD i 0 ≤ (hsV c k).getD i 0)
include h hl hk hle
theorem le_all (i : Nat) : o.vals.getD i 0 ≤ (hsV c k).getD i 0 := by
 by_cases hi : i < nC c
 ·
  exact hle i hi
 ·
  rw [List.getD_eq_getElem?_getD, List.getD_eq_getElem?_getD, List.getElem?_eq_none (by omega), List.getElem?_eq_none (by rw [(h.his k hk).2.1]; omega)]
  exact Int.le_refl _
include hf hv
theorem in_le {p : Pln} (hp : p ≠ neverP) (hc0 : frC c ≤ p.close) (hc1 : p.close ≤ frC c + lastC c) {j : Nat} (hj : j < nC c) (ha : aboveC c k p j = false) : ∃ s, inC (soloC c o) 0 p j = some s ∧ s.hi ≤ c.limit := by
 have hd := h.del
 have hall := le_all h hl hk hle
 have hfr : frC (soloC c o) = frC c := hf
 obtain ⟨s, e1, e2⟩ := above_no.1 ha
 have hop : opnC (soloC c o) p j = opnC c p j := by unfold opnC; rw [hfr]; rfl
 unfold inC at e1 ⊢
 rw [hop]
 by_cases ho : opnC c p j = true
 ·
  rw [if_pos ho] at e1 ⊢
  cases e1
  exact ⟨_, rfl, Int.le_trans (hall j) e2⟩
 ·
  rw [if_neg ho] at e1 ⊢
  rw [hfr]
  show ∃ s, (if ((volsC (soloC c o) 0 (p.close - frC c + c.delay).toNat).length : Int) ≤ j - (p.close - frC c + c.delay) then none else some (lvlS c.bas ((volsC (soloC c o) 0 (p.close - frC c + c.delay).toNat).getD (j - (p.close - frC c + c.delay)).toNat 0))) = some s ∧ s.hi ≤ c.limit
  split at e1
  ·
   cases e1
  next hlen =>
  have hlt : ∀ i, LeT (tkC (soloC c o) 0 i) (tkC c k i) := fun i => ⟨hall i, Int.le_refl _, rfl⟩
  have hto : ∀ i, TkOk (tkC (soloC c o) 0 i) := fun i => ⟨getD_bd0 hv ⟨by decide, by decide⟩ i, getD_bd0 h.riv.2 ⟨by decide, by decide⟩ i, h.out⟩
  unfold volsC at e1 hlen ⊢
  have hn : nC (soloC c o) = nC c := hl
  rw [hn]
  generalize hsh : (p.close - frC c + c.delay).toNat = sh at *
  have hm : max (o.vals.getD sh 0) (lvB c.bas 0) ≤ max ((hsV c k).getD sh 0) (lvB c.bas 0) := by have := hall sh; omega
  have hv0 : vol0 (soloC c o) 0 sh ≤ vol0 c k sh := volB_mono (b := c.bas) (l := max (o.vals.getD sh 0) (lvB c.bas 0)) h.bas (Int.le_max_right ..) hm
  have hb' : vlB c.bas 0 ≤ vol0 (soloC c o) 0 sh ∧ vol0 (soloC c o) 0 sh ≤ 1000000000 := volB_bd (b := c.bas) (l := max (o.vals.getD sh 0) (lvB c.bas 0)) h.bas (Int.le_max_right ..)
  have hb : vlB c.bas 0 ≤ vol0 c k sh ∧ vol0 c k sh ≤ 1000000000 := volB_bd h.bas (Int.le_max_right ..)
  obtain ⟨r1, r2⟩ := volsR_le (c := c) (c' := soloC c o) (k := k) h rfl hlt hto (nC c - 1 - sh) sh ⟨vol0 (soloC c o) 0 sh, c.filled⟩ ⟨vol0 c k sh, c.filled⟩ ⟨h.len, hb', h.fil⟩ ⟨h.len, hb, h.fil⟩ ⟨hv0, fun _ _ => Int.le_refl _⟩
  rw [if_neg (by
   intro hx
   apply hlen
   simp only [List.length_cons] at hx ⊢
   have : (volsR (soloC c o) 0 (nC c - 1 - sh) sh ⟨vol0 (soloC c o) 0 sh, (soloC c o).filled⟩).length = (volsR (soloC c o) 0 (nC c - 1 - sh) sh ⟨vol0 (soloC c o) 0 sh, c.filled⟩).length := rfl
   omega)]
  cases e1
  refine ⟨_, rfl, ?_⟩
  refine Int.le_trans ?_ e2
  simp only [List.length_cons] at hlen
  generalize hq : (↑j - (p.close - frC c + c.delay)).toNat = q at *
  cases q with
  | zero =>
   exact lvlS_mono h.bas hb'.1 hv0
  | succ q =>
   have := r2 q (by omega)
   show (lvlS c.bas ((volsR (soloC c o) 0 (nC c - 1 - sh) sh ⟨vol0 (soloC c o) 0 sh, c.filled⟩).getD q 0)).hi ≤ (lvlS c.bas ((volsR c k (nC c - 1 - sh) sh ⟨vol0 c k sh, c.filled⟩).getD q 0)).hi
   exact lvlS_mono h.bas this.2 this.1
end
theorem inn_all {c : Clt} {k : Nat} {p : Pln} {lim : Int} : ∀ (m i : Nat), (∀ j, i ≤ j → j < i + m → ∃ s, inC c k p j = some s ∧ s.hi ≤ lim) → ∃ l, innK c k p m i = some l ∧ l.length = m ∧ ∀ s ∈ l, s.hi ≤ lim
  | 0, i, _ => ⟨[], rfl, rfl, fun _ h => nomatch h⟩
  | m + 1, i, h => by
    obtain ⟨s, h1, h2⟩ := h i (Nat.le_refl _) (by omega)
    obtain ⟨l, h3, h4, h5⟩ := inn_all m (i + 1) (fun j a b => h j (by omega) (by omega))
    refine ⟨s :: l, ?_, by rw [List.length_cons, h4], fun x hx => ?_⟩
    · rw [innK, h1, h3]; rfl
    · rcases List.mem_cons.1 hx with rfl | hx
      · exact h2
      · exact h5 x hx
theorem top_in {c : Clt} {o : Ser} {r : Int × Int} {p : Pln} {m' : Nat} (e : decR c r = (p, m', 0)) (hp : 0 ≤ p.close) (hf : o.frm = frC c) (hl : o.vals.length = nC c) (hv : ∀ v ∈ o.vals, Bd v (-20000) 20000) {k : Nat} (hk : k < c.hist.length) (hle : ∀ i, i < nC c → o.vals.getD i 0 ≤ (hsV c k).getD i 0) :
    (innR (soloC c o) 0 p).2 = 0 ∧ (innR (soloC c o) 0 p).1.length = o.vals.length ∧ ∀ s ∈ (innR (soloC c o) 0 p).1, s.hi ≤ c.limit := by
  obtain ⟨h, j, j1, j2, j3, -⟩ := dec_ok e hp
  have hok := one_ok h hf hl hv
  have hn : nC (soloC c o) = nC c := hl
  have hfr : frC (soloC c o) = frC c := hf
  have hlast : lastC (soloC c o) = lastC c := by unfold lastC; rw [hn]; rfl
  have hst : strC (soloC c o) p = false := by
    have := plan_str h (i := j) (by omega) j1
    rw [← j2] at this
    unfold strC at this ⊢
    rw [hlast, hfr, hn]
    exact this
  have hne : p ≠ neverP := fun e2 => by rw [e2] at hp; exact absurd hp (by decide)
  have hpc : p.close = frC c + j := by rw [j2]; rfl
  have hfail : failC c k p < 0 := by
    unfold witC at j3
    have := List.any_eq_false.1 j3 k (List.mem_range.2 hk)
    rw [← j2] at this
    simp only [decide_eq_true_eq] at this
    omega
  have hall := fail_iff.1 hfail
  obtain ⟨l, l1, l2, l3⟩ := inn_all (c := soloC c o) (k := 0) (p := p) (lim := c.limit) (nC c) 0 (fun q _ hq => in_le h hf hl hv hk hle hne (by omega) (by omega) (by omega) (hall q (by rw [h.riv.1]; omega)))
  have he : innE (soloC c o) 0 p = 0 := by
    unfold innE
    rw [if_neg (fun k => k hok), if_neg (by rw [show outB 0 0 (((soloC c o).hist.length : Int) - 1) = false from outB_false.2 ⟨by decide, by show (0 : Int) ≤ ((1 : Nat) : Int) - 1; decide⟩]; decide), if_neg (by rw [hst]; decide)]
  have hr : innR (soloC c o) 0 p = (l, 0) := by
    unfold innR
    rw [if_neg (fun k => k he), hn]
    have l4 : innK (soloC c o) (0 : Int).toNat p (nC c) 0 = some l := l1
    rw [l4]
  rw [hr]
  exact ⟨rfl, by rw [l2, hl], l3⟩
section
variable {κ : Type} [DecidableEq κ] {P : Program}
def FindOk (enc : κ → Value) (m : List (κ × Value)) (k : κ) (es : List MapEntry) (i : Nat) (r : Option (Nat × Value)) : Prop :=
 r.map (·.2) = getM m k ∧
 (∀ j v0, r = some (j, v0) → ∃ l, j = i + l ∧ ∃ (hl : l < es.length), es[l].key = enc k ∧ ∀ v, (es.modify l (fun e => { e with key := enc k, val := v })).map (fun (e : MapEntry) => (e.key, e.val)) = (setM m k v).map (fun p => (enc p.1, p.2))) ∧
 (r = none → ∀ v, (es ++ [(⟨enc k, v, 0⟩ : MapEntry)]).map (fun (e : MapEntry) => (e.key, e.val)) = (setM m k v).map (fun p => (enc p.1, p.2)))
structure KeyFn (P : Program) (T : TypeId) (enc : κ → Value) : Prop where
 check : ∀ e k w, (Instr.checkKey e 10000 T (enc k)).run P w = .ok () w
 find : ∀ (k : κ) (es : List MapEntry) (m : List (κ × Value)) (w : World), es.map (fun (e : MapEntry) => (e.key, e.val)) = m.map (fun p => (enc p.1, p.2)) → ∃ r, (Instr.findKey T (enc k) es).run P w = .ok r w ∧ FindOk enc m k es 0 r
 bits : ∀ a, Instr.sameBits 10000 (enc a) (enc a) = true
theorem findAsk_get {T : TypeId} {enc : κ → Value} (hd : ∀ a b w, (Op.equal T (enc a) (enc b)).run P w = .ok (decide (a = b)) w) (k : κ) (w : World) : ∀ (es : List MapEntry) (m : List (κ × Value)) (i : Nat), es.map (fun (e : MapEntry) => (e.key, e.val)) = m.map (fun p => (enc p.1, p.2)) →
    ∃ r, (Instr.findAsking T (enc k) es i).run P w = .ok r w ∧ FindOk enc m k es i r
  | [], m, i, h => by
    obtain rfl : m = [] := by simpa using h.symm
    exact ⟨none, rfl, rfl, (fun _ _ e => by cases e), fun _ v => rfl⟩
  | e :: es, m, i, h => by
    cases m with
    | nil => simp at h
    | cons p m =>
      obtain ⟨a, x⟩ := p
      simp only [List.map_cons, List.cons.injEq, Prod.mk.injEq] at h
      obtain ⟨⟨h1, h2⟩, h3⟩ := h
      by_cases hka : k = a
      · subst hka
        refine ⟨some (i, e.val), by simp [Instr.findAsking, h1, hd], by simp [getM, h2], ?_, fun e => by cases e⟩
        intro j v0 hj
        simp only [Option.some.injEq, Prod.mk.injEq] at hj
        refine ⟨0, by omega, by simp, h1, fun v => ?_⟩
        simp [setM, h3]
      · obtain ⟨r, hr1, hr2, hr3, hr4⟩ := findAsk_get hd k w es m (i + 1) h3
        refine ⟨r, by simp [Instr.findAsking, h1, hd, hka, hr1], by simp [getM, hka, hr2], ?_, ?_⟩
        · intro j v0 hj
          obtain ⟨l, rfl, hl, hk, hv⟩ := hr3 j v0 hj
          refine ⟨l + 1, by omega, by simp; omega, by simpa using hk, fun v => ?_⟩
          have := hv v
          simp only [List.modify_succ_cons, List.map_cons, setM, hka, if_false, h1, h2]
          rw [this]
        · intro hn v
          have := hr4 hn v
          simp only [List.cons_append, List.map_cons, setM, hka, if_false, h1, h2]
          rw [this]
theorem KeyFn.struct {T : TypeId} {enc : κ → Value} {fs : Array Field} (hu : P.underlying T = some (.struct fs)) (hd : ∀ a b w, (Op.equal T (enc a) (enc b)).run P w = .ok (decide (a = b)) w) (hc : ∀ e k w, (Instr.checkKey e 10000 T (enc k)).run P w = .ok () w) (hb : ∀ a, Instr.sameBits 10000 (enc a) (enc a) = true) : KeyFn P T enc := by
 refine ⟨hc, fun k es m w h => ?_, hb⟩
 obtain ⟨r, hr, hok⟩ := findAsk_get hd k w es m 0 h
 refine ⟨r, ?_, hok⟩
 simp only [Instr.findKey, Sem.run_bind, run_underlying hu, Result.andThen_ok]
 cases es with
 | nil => simpa [Instr.findNow, Instr.findAsking] using hr
 | cons e es => simpa [Instr.findNow, Instr.sameNow] using hr
theorem run_lookup2 {w : World} {T K E : TypeId} {b : Nat} {enc : κ → Value} {m : List (κ × Value)} {k : κ} {z : Value} {ok : Bool} (hT : ∀ w, (underlying T).run P w = .ok (.map K E) w) (hk : KeyFn P K enc) (hz : ∀ w, (zeroValue E).run P w = .ok z w)
    (hb : ∃ o, w.heap[b]? = some o ∧ MapOk enc m o) : (Instr.lookup T (.map (some b)) (enc k) ok).run P w = .ok (if ok then .tuple #[(getM m k).getD z, .bool (getM m k).isSome] else (getM m k).getD z) w := by
  obtain ⟨o, hb, es, c, rfl, hm⟩ := hb
  obtain ⟨r, hr, hg, _⟩ := hk.find k es.toList m w hm
  have hget : (getObj b).run P w = .ok (.map es c) w := by simp [getObj, Sem.run, hb]
  rw [← hg]
  simp only [Instr.lookup, Sem.run_bind, hT, Result.andThen_ok, hget, Sem.run_pure, hk.check, hr]
  cases r with
  | none => simp [hz]
  | some p => simp
theorem run_mapUpdate2 {w : World} {T K E : TypeId} {b : Nat} {enc : κ → Value} {m : List (κ × Value)} {k : κ} {v : Value} (hT : ∀ w, (underlying T).run P w = .ok (.map K E) w) (hk : KeyFn P K enc)
    (hb : ∃ o, w.heap[b]? = some o ∧ MapOk enc m o) : ∃ o' w', (Instr.mapUpdate T (.map (some b)) (enc k) v).run P w = .ok () w' ∧ Put b o' w w' ∧ MapOk enc (setM m k v) o' := by
  obtain ⟨o, hb, es, c, rfl, hm⟩ := hb
  obtain ⟨r, hr, _, hsome, hnone⟩ := hk.find k es.toList m w hm
  have hget : (getObj b).run P w = .ok (.map es c) w := by simp [getObj, Sem.run, hb]
  have hlt : b < w.heap.size := lt_of_heap hb
  have hset : ∀ o', (setObj b o').run P w = .ok () { w with heap := w.heap.setIfInBounds b o' } := fun o' => by simp [setObj, Sem.run, hb]
  have hput : ∀ o', Put b o' w { w with heap := w.heap.setIfInBounds b o' } := fun o' => by
    refine ⟨rfl, rfl, rfl, by simp, by simp [hlt], fun j _ hj => ?_⟩
    show (w.heap.setIfInBounds b o')[j]? = _
    rw [Array.getElem?_setIfInBounds, if_neg (fun e => hj e.symm)]
  cases r with
  | none =>
    refine ⟨.map (es.push ⟨enc k, v, c⟩) (c + 1), _, ?_, hput _, _, _, rfl, ?_⟩
    · simp only [Instr.mapUpdate, Sem.run_bind, hT, Result.andThen_ok, hget, hk.check, hr, Sem.run_pure, hset]
    · have := hnone rfl v
      simpa using this
  | some p =>
    obtain ⟨j, v0⟩ := p
    obtain ⟨l, hj, hl, hkey, hv⟩ := hsome j v0 rfl
    rw [Nat.zero_add] at hj
    subst hj
    have hl' : j < es.size := by simpa using hl
    have hstay : ∀ w, (Instr.keyThatStays (((es[j]?).map (·.key)).getD (enc k)) (enc k)).run P w = .ok (enc k) w := fun w => by
      have : es[j].key = enc k := by simpa using hkey
      simp [Instr.keyThatStays, hl', this, hk.bits]
    refine ⟨.map (es.modify j fun e => { e with key := enc k, val := v }) c, _, ?_, hput _, _, _, rfl, ?_⟩
    · simp only [Instr.mapUpdate, Sem.run_bind, hT, Result.andThen_ok, hget, hk.check, hr, Sem.run_pure, hstay, hset]
    · have := hv v
      simpa [Array.toList_modify] using this
end
section
variable {P : Program} {ops : Array Oper} {Q : Exit → Act → World → Prop} {n : Nat} {f : Fr} {S : List Nat} {w0 w w' : World} {L L' : List Item} {rest : List Oper} {d : Nat} {ty : TypeId} {pos : String} {af : Array Edge}
variable {κ : Type} [DecidableEq κ]
theorem smapset2 (enc : κ → Value) {T K E : TypeId} {xm xk xv : Operand} {b : Nat} {m : List (κ × Value)} {k : κ} {v : Value} (hS : StX S w0 w L) (hm : ev n f xm = .map (some b)) (hx : ev n f xk = enc k) (hv : ev n f xv = v) (hT : ∀ w, (underlying T).run P w = .ok (.map K E) w)
    (hk : KeyFn P K enc) [i : AtB L b (MapOk enc m)] [j : SetB L b (MapOk enc (setM m k v)) L'] (h : ∀ w', StX S w0 w' L' → wpL P ops Q n rest f w') : wpL P ops Q n (⟨none, .mapUpdate T xm xk xv, ty, pos, af, none⟩ :: rest) f w := by
  obtain ⟨o', w', hr, hp, ho⟩ := run_mapUpdate2 (k := k) (v := v) hT hk (hS.is b)
  refine wpL_skip (w' := w') ?_ (h w' (hS.puts hp ho))
  simp [xop, execOp, hm, hx, hv, hr]
theorem yLookOk2 (enc : κ → Value) {ρ : Operand → Value} {T K E : TypeId} {xm xk : Operand} {b : Nat} {m : List (κ × Value)} {k : κ} {z v : Value} (hm : ρ xm = .map (some b)) (hx : ρ xk = enc k) (hT : ∀ w, (underlying T).run P w = .ok (.map K E) w) (hk : KeyFn P K enc)
    (hz : ∀ w, (zeroValue E).run P w = .ok z w) (hb : ∃ o, w.heap[b]? = some o ∧ MapOk enc m o) (hv : (getM m k).getD z = v) : Y P ρ (.lookup T xm xk true) ty w (.tuple #[v, .bool (getM m k).isSome]) w := by
  subst hv
  simp [Y, xop, execOp, hm, hx, run_lookup2 (ok := true) hT hk hz hb]
end
section
variable {P : Program} {ops : Array Oper} {Q : Exit → Act → World → Prop} {n : Nat} {rest : List Oper} {f : Fr} {w : World} {d : Nat} {ty : TypeId} {pos : String} {af : Array Edge}
end
def encSp (p : Int × Int) : Value := .agg #[.int .i64 p.1, .int .i64 p.2]
def vsI (c : Clt) (ms : List ((Int × Int) × Value)) : List Item := ms.map fun e => rowI e.2 3 1 (volsC c e.1.1.toNat e.1.2.toNat).length ((volsC c e.1.1.toNat e.1.2.toNat).flatMap encI)
theorem getM_mem {κ : Type} [DecidableEq κ] {k : κ} {v : Value} : ∀ {ms : List (κ × Value)}, getM ms k = some v → (k, v) ∈ ms
  | [], h => by cases h
  | (a, x) :: ms, h => by
    unfold getM at h
    split at h
    next e => cases h; rw [e]; exact List.mem_cons_self ..
    next e => exact List.mem_cons_of_mem _ (getM_mem h)
theorem setM_new {κ : Type} [DecidableEq κ] {k : κ} {v : Value} : ∀ {ms : List (κ × Value)}, getM ms k = none → setM ms k v = ms ++ [(k, v)]
  | [], h => rfl
  | (a, x) :: ms, h => by
    unfold getM at h
    split at h
    next e => cases h
    next e => rw [setM, if_neg e, setM_new h]; rfl
theorem vsI_get {c : Clt} {ms : List ((Int × Int) × Value)} {k s : Nat} {v : Value} {w : World} (h : ∀ it ∈ vsI c ms, it.ok w) (hm : getM ms ((k : Int), (s : Int)) = some v) : w.ownsRow 0 3 1 v (volsC c k s).length ((volsC c k s).flatMap encI) := by
 have := h (rowI v 3 1 (volsC c k s).length ((volsC c k s).flatMap encI)) (List.mem_map.2 ⟨_, getM_mem hm, by simp⟩)
 exact this
theorem vsI_snoc {c : Clt} {ms : List ((Int × Int) × Value)} {k s : Nat} {v : Value} : vsI c (ms ++ [(((k : Int), (s : Int)), v)]) = vsI c ms ++ [rowI v 3 1 (volsC c k s).length ((volsC c k s).flatMap encI)] := by
 unfold vsI; rw [List.map_append]; rfl
theorem volsR_bd {c : Clt} (h : ClOk c) {k : Nat} : ∀ (m i : Nat) (s : BSt), BstOk c.bas s → (volsR c k m i s).length ≤ m ∧ ∀ v ∈ volsR c k m i s, vlB c.bas 0 ≤ v ∧ v ≤ 1000000000
  | 0, _, _, _ => ⟨Nat.le_refl _, fun _ h => nomatch h⟩
  | m + 1, i, s, hs => by
    rw [volsR]
    split
    · exact ⟨Nat.zero_le _, fun _ h => nomatch h⟩
    next he =>
    have o1 := stepE_ok (Decidable.not_not.1 he)
    have k1 := step_st h.bas hs (tk_ok o1.1) o1.2.2.1 o1.2.2.2
    obtain ⟨r1, r2⟩ := volsR_bd h (k := k) m (i + 1) _ k1
    refine ⟨by simp only [List.length_cons]; omega, fun v hv => ?_⟩
    rcases List.mem_cons.1 hv with rfl | hv
    · exact k1.vol
    · exact r2 v hv
theorem vol0_bd {c : Clt} (h : ClOk c) (k s : Nat) : vlB c.bas 0 ≤ vol0 c k s ∧ vol0 c k s ≤ 1000000000 := volB_bd h.bas (Int.le_max_right ..)
theorem st0_ok {c : Clt} (h : ClOk c) (k s : Nat) : BstOk c.bas ⟨vol0 c k s, c.filled⟩ := ⟨h.len, vol0_bd h k s, h.fil⟩
theorem volsC_bd {c : Clt} (h : ClOk c) (k s : Nat) : (1 ≤ (volsC c k s).length ∧ (volsC c k s).length ≤ nC c + 1) ∧ ∀ v ∈ volsC c k s, vlB c.bas 0 ≤ v ∧ v ≤ 1000000000 := by
 obtain ⟨r1, r2⟩ := volsR_bd h (k := k) (nC c - 1 - s) s ⟨vol0 c k s, c.filled⟩ (st0_ok h k s)
 unfold volsC
 refine ⟨by simp only [List.length_cons]; omega, fun v hv => ?_⟩
 rcases List.mem_cons.1 hv with rfl | hv
 ·
  exact vol0_bd h k s
 ·
  exact r2 v hv
theorem volsC_i64 {c : Clt} (h : ClOk c) (k s : Nat) : ∀ v ∈ volsC c k s, I64 v := fun v hv => by
 have h1 := (volsC_bd h k s).2 v hv
 have h2 := h.bas.vl 0 (by have := h.bas.len; omega)
 exact ⟨by omega, by omega⟩
theorem hsS_get {c : Clt} {k : Nat} (h : k < c.hist.length) : c.hist[k]? = some (hsS c k) := by simp [hsS, List.getD, h]
theorem getD_get {l : List Int} {i : Nat} (h : i < l.length) : l[i]? = some (l.getD i 0) := by simp [List.getD, h]
theorem clt_parts {w : World} {c : Clt} {rv pv fv hv iv : Value} (h : RClt w [rv, .int .i64 c.bas.leak, .int .i64 c.bas.crest, .int .i64 c.bas.over, pv, fv, hv, iv, .int .i64 c.out, .int .i64 c.limit, .int .i64 c.delay] c) :
    RBas w [rv, .int .i64 c.bas.leak, .int .i64 c.bas.crest, .int .i64 c.bas.over, pv] c.bas ∧ Sl w 1 RInt fv c.filled ∧ Room c.filled.length 8 ∧ Sl w 2 RSer hv c.hist ∧ Sl w 1 RInt iv c.river := by
  obtain ⟨_, _, _, _, _, e, h1, h2, h3, h4, h5, -⟩ := h
  cases e
  exact ⟨h1, h2, h3, h4, h5⟩
def RRun (w0 : World) (c : Clt) (its : List Item) (v : Value) (s : BSt) : Prop := ∀ w2 : World, Ext w0 w2 → (∀ it ∈ its, it.ok w2) → RBst w2 [.int .i64 s.volume, v] s
theorem volsR_step {c : Clt} {k m i : Nat} {s : BSt} {pre l : List Int} (hV : l = pre ++ volsR c k (m + 1) i s) (he : stepE c.bas s (tkC c k i) = 0) : l = (pre ++ [(bstS c.bas s (tkC c k i)).volume]) ++ volsR c k m (i + 1) (bstS c.bas s (tkC c k i)) := by
 rw [hV, volsR, if_neg (fun k => k he), List.append_assoc]; rfl
theorem volsR_stop {c : Clt} {k m i : Nat} {s : BSt} {pre l : List Int} (hV : l = pre ++ volsR c k (m + 1) i s) (he : stepE c.bas s (tkC c k i) ≠ 0) : l = pre := by
 rw [hV, volsR, if_pos he, List.append_nil]
theorem volsR_end {c : Clt} {k m i : Nat} {s : BSt} {pre l : List Int} (hV : l = pre ++ volsR c k m i s) (hm : m = 0) : l = pre := by
 rw [hV, hm, volsR, List.append_nil]
theorem run_pre {S : List Nat} {w0 w : World} {x r : Item} {L : List Item} (h : StX S w0 w (x :: r :: L)) : StX S w0 w (x :: r :: packI [] :: L) :=
 (StX.pack (M := []) h).perm (List.perm_middle (l₁ := [x, r]) (l₂ := L) (a := packI [])).symm
theorem run_next {S : List Nat} {w0 w : World} {a b p2 x r p : Item} {L : List Item} (h : StX S w0 w (a :: b :: p2 :: x :: r :: p :: L)) : StX S w0 w (x :: r :: p2 :: L) :=
 (h.sub (M := p2 :: x :: r :: L) (.cons _ (.cons _ (.cons_cons _ (.cons_cons _ (.cons_cons _ (.cons _ (List.Sublist.refl _)))))))).perm (List.perm_middle (l₁ := [x, r]) (l₂ := L) (a := p2)).symm
theorem run_end {S : List Nat} {w0 w : World} {r b g m : Item} {M L : List Item} (h : StX S w0 w (r :: b :: g :: m :: packI M :: L)) : StX S w0 w (g :: m :: packI (M ++ [r]) :: L) := by
 have h1 : StX S w0 w (r :: packI M :: g :: m :: L) := (h.sub (M := r :: g :: m :: packI M :: L) (.cons_cons _ (.cons _ (List.Sublist.refl _)))).perm ((List.perm_middle (l₁ := [g, m]) (l₂ := L) (a := packI M)).cons r)
 exact h1.packs.perm (List.perm_middle (l₁ := [g, m]) (l₂ := L) (a := packI (M ++ [r]))).symm
theorem st_next {c : Clt} (h : ClOk c) {k i : Nat} {s : BSt} (hs : BstOk c.bas s) (he : stepE c.bas s (tkC c k i) = 0) : BstOk c.bas (bstS c.bas s (tkC c k i)) := by
 have o1 := stepE_ok he
 exact step_st h.bas hs (tk_ok o1.1) o1.2.2.1 o1.2.2.2
theorem opn3 (c : Clt) (p : Pln) (i : Int) : p = neverP ∨ (p ≠ neverP ∧ i ≤ p.close - frC c + c.delay) ∨ (p ≠ neverP ∧ ¬ i ≤ p.close - frC c + c.delay) := by
 by_cases h : p = neverP
 ·
  exact .inl h
 ·
  by_cases h2 : i ≤ p.close - frC c + c.delay
  ·
   exact .inr (.inl ⟨h, h2⟩)
  ·
   exact .inr (.inr ⟨h, h2⟩)
theorem never_yes {p : Pln} (h : p = neverP) : (decide (p.close = -1) && decide (p.opn = -1)) = true := by rw [h]; rfl
theorem never_no {p : Pln} (h : p ≠ neverP) : (decide (p.close = -1) && decide (p.opn = -1)) = false := by
 rw [Bool.and_eq_false_iff, decide_eq_false_iff_not, decide_eq_false_iff_not]
 apply Decidable.byContradiction
 intro hc
 apply h
 obtain ⟨a, b⟩ := p
 have h1 : a = -1 := by dsimp only at hc; omega
 have h2 : b = -1 := by dsimp only at hc; omega
 rw [h1, h2]; rfl
theorem nvr_0 {p : Pln} (h : p = neverP) : (!(decide (p.close = -1) && decide (p.opn = -1))) = false := by rw [never_yes h]; rfl
theorem nvr_1 {p : Pln} (h : p ≠ neverP) : (!(decide (p.close = -1) && decide (p.opn = -1))) = true := by rw [never_no h]; rfl
def PlnOk (c : Clt) (p : Pln) : Prop := p = neverP ∨ ((frC c ≤ p.close ∧ p.close ≤ frC c + lastC c) ∧ 0 ≤ p.opn ∧ p.opn ≤ 1000000)
def inS (c : Clt) (k : Nat) (p : Pln) (i : Nat) : Span := (inC c k p i).getD ⟨0, 0⟩
theorem in_open {c : Clt} {k : Nat} {p : Pln} {i : Nat} (h : opnC c p i = true) : inC c k p i = some ⟨(hsV c k).getD i 0, (hsV c k).getD i 0⟩ := by unfold inC; rw [if_pos h]
theorem opn_a {c : Clt} {p : Pln} {i : Nat} (h : p = neverP) : opnC c p i = true := by unfold opnC; rw [decide_eq_true h]; rfl
theorem opn_b {c : Clt} {p : Pln} {i : Nat} (h : (i : Int) ≤ p.close - frC c + c.delay) : opnC c p i = true := by unfold opnC; rw [decide_eq_true h]; simp
theorem opn_c {c : Clt} {p : Pln} {i : Nat} (h : p ≠ neverP) (h2 : ¬ (i : Int) ≤ p.close - frC c + c.delay) : opnC c p i = decide (p.opn - frC c ≤ i) := by unfold opnC; rw [decide_eq_false h, decide_eq_false h2]; simp
theorem in_no {c : Clt} {k : Nat} {p : Pln} {i sh : Nat} (h : opnC c p i = false) (hs : p.close - frC c + c.delay = (sh : Int)) (hl : ((volsC c k sh).length : Int) ≤ i - sh) : inC c k p i = none := by
 unfold inC; rw [h, if_neg (by decide), hs, Int.toNat_natCast, if_pos hl]
theorem in_yes {c : Clt} {k : Nat} {p : Pln} {i sh : Nat} (h : opnC c p i = false) (hs : p.close - frC c + c.delay = (sh : Int)) (hl : ¬ ((volsC c k sh).length : Int) ≤ i - sh) : inC c k p i = some (lvlS c.bas ((volsC c k sh).getD ((i : Int) - sh).toNat 0)) := by
 unfold inC; rw [h, if_neg (by decide), hs, Int.toNat_natCast, if_neg hl]
theorem above_eq {c : Clt} {k : Nat} {p : Pln} {i : Nat} : (!(inC c k p i).isSome || decide (c.limit < (inS c k p i).hi)) = aboveC c k p i := by
 unfold aboveC inS
 cases inC c k p i <;> rfl
theorem fail_hit {c : Clt} {k : Nat} {p : Pln} {m i : Nat} (h : aboveC c k p i = true) : failK c k p (m + 1) i = i := by rw [failK, if_pos h]
theorem fail_miss {c : Clt} {k : Nat} {p : Pln} {m i : Nat} (h : aboveC c k p i = false) : failK c k p (m + 1) i = failK c k p m (i + 1) := by rw [failK, if_neg (by rw [h]; decide)]
theorem str3 (c : Clt) (p : Pln) : p = neverP ∨ (p ≠ neverP ∧ outB p.close (frC c) (frC c + lastC c) = true) ∨ (p ≠ neverP ∧ outB p.close (frC c) (frC c + lastC c) = false) := by
 by_cases h : p = neverP
 ·
  exact .inl h
 ·
  cases h2 : outB p.close (frC c) (frC c + lastC c)
  ·
   exact .inr (.inr ⟨h, rfl⟩)
  ·
   exact .inr (.inl ⟨h, rfl⟩)
theorem str_a {c : Clt} {p : Pln} (h : p = neverP) : strC c p = false := by unfold strC; rw [decide_eq_false (fun k => k h)]; rfl
theorem str_b {c : Clt} {p : Pln} (h : p ≠ neverP) (h2 : outB p.close (frC c) (frC c + lastC c) = true) : strC c p = true := by unfold strC; rw [decide_eq_true h, h2]; rfl
theorem str_c {c : Clt} {p : Pln} (h : p ≠ neverP) (h2 : outB p.close (frC c) (frC c + lastC c) = false) : strC c p = outB p.opn (p.close + c.delay + 1) (frC c + nC c) := by unfold strC; rw [decide_eq_true h, h2]; rfl
section
variable {P : Program} {ρ : Operand → Value} {w : World} {ty : TypeId}
theorem yAn0 {c a b : Operand} {B : Bool} (hc : ρ c = .bool B) (hB : B = false) (hb : ρ b = .bool false) : Y P ρ (.pick c a b) ty w (.bool false) w := by
 subst hB
 exact yAnd (B := false) (C := true) hc (fun h => by cases h) hb
theorem yAn1 {c a b : Operand} {B C : Bool} (hc : ρ c = .bool B) (hB : B = true) (ha : ρ a = .bool C) (hb : ρ b = .bool false) : Y P ρ (.pick c a b) ty w (.bool C) w := by
 subst hB
 exact yAnd (B := true) (C := C) hc (fun _ => ha) hb
theorem yOr1 {c a b : Operand} {B : Bool} (hc : ρ c = .bool B) (hB : B = true) (ha : ρ a = .bool true) : Y P ρ (.pick c a b) ty w (.bool true) w := by
 subst hB
 exact yOr (B := true) (C := true) hc ha (fun h => by cases h)
theorem yOr0 {c a b : Operand} {B C : Bool} (hc : ρ c = .bool B) (hB : B = false) (ha : ρ a = .bool true) (hb : ρ b = .bool C) : Y P ρ (.pick c a b) ty w (.bool C) w := by
 subst hB
 exact yOr (B := false) (C := C) hc ha (fun _ => hb)
end
end Bx
namespace Go.Proofs.YtchbdfcbogjhcaaGreatDoor
open Go Bx
variable {w : World}
theorem eqIn155 {a0 b0 : Int} {a1 b1 : Int} : (Op.equalIn 10000 155 (.agg #[.int .i64 a0, .int .i64 a1]) (.agg #[.int .i64 b0, .int .i64 b1])).run Tryz.prog w = .ok (decide (a0 = b0) && decide (a1 = b1)) w := by
 have u3 := Tryz.underlying3
 have z3 := Tryz.sizeOf3
 have g3 := Tryz.isAgg3
 rw [show (10000 : Nat) = 9999 + 1 from rfl, run_equalIn_agg w 9999 155 _ _ (by kernel_rfl) (by kernel_rfl)]
 simp only [Program.fieldsOf, Tryz.underlying155]
 go_simp
 by_cases h0 : a0 = b0 <;> by_cases h1 : a1 = b1 <;> simp [h0, h1]
theorem chkRun (e : Bool) (p : Int × Int) (w : World) : (Instr.checkKey e 10000 155 (encSp p)).run Tryz.prog w = .ok () w := by
 have u3 := Tryz.underlying3
 have z3 := Tryz.sizeOf3
 have g3 := Tryz.isAgg3
 show (Instr.checkKey e (9999 + 1) 155 (encSp p)).run Tryz.prog w = _
 rw [Instr.checkKey]
 simp only [encSp, Sem.run_bind, run_underlying Tryz.underlying155, Result.andThen_ok]
 go_simp
 have hi : ∀ (a : Int) (w : World), (Instr.checkKey e 9999 3 (.int .i64 a)).run Tryz.prog w = .ok () w := fun a w => by
  show (Instr.checkKey e (9998 + 1) 3 (.int .i64 a)).run Tryz.prog w = _
  rw [Instr.checkKey]
  simp only [Sem.run_bind, run_underlying Tryz.underlying3, Result.andThen_ok]
  rfl
 simp only [hi, Result.andThen_ok]
theorem keyRun : KeyFn Tryz.prog 155 encSp := by
 refine KeyFn.struct Tryz.underlying155 (fun a b w => ?_) chkRun (fun a => ?_)
 ·
  show (Op.equalIn 10000 155 (encSp a) (encSp b)).run _ _ = _
  obtain ⟨a0, a1⟩ := a
  obtain ⟨b0, b1⟩ := b
  rw [encSp, encSp, eqIn155]
  by_cases h0 : a0 = b0 <;> by_cases h1 : a1 = b1 <;> simp [h0, h1]
 ·
  simp [encSp, Instr.sameBits]
end Go.Proofs.YtchbdfcbogjhcaaGreatDoor
namespace Bx
open Go Go.RowKit
abbrev ctQ (c : Clt) (ar ap af ah ai : Option Addr) (cr cp cf ch ci : Nat) : List Value := [.slice ar c.bas.rows.length cr, .int .i64 c.bas.leak, .int .i64 c.bas.crest, .int .i64 c.bas.over, .slice ap c.bas.pols.length cp, .slice af c.filled.length cf, .slice ah c.hist.length ch, .slice ai c.river.length ci, .int .i64 c.out, .int .i64 c.limit, .int .i64 c.delay]
abbrev gcQ (c : Clt) (ar ap af ah ai : Option Addr) (cr cp cf ch ci m : Nat) : List Value := [.slice ar c.bas.rows.length cr, .int .i64 c.bas.leak, .int .i64 c.bas.crest, .int .i64 c.bas.over, .slice ap c.bas.pols.length cp, .slice af c.filled.length cf, .slice ah c.hist.length ch, .slice ai c.river.length ci, .int .i64 c.out, .int .i64 c.limit, .int .i64 c.delay, .int .i64 (frC c), .int .i64 (nC c : Int), .int .i64 (quietC c : Int), .map (some m)]
theorem nvQ {p : Pln} (h : p = neverP) : Value.bool (decide (p.close = -1) && decide (p.opn = -1)) ≠ .bool false := by rw [never_yes h]; simp
end Bx
namespace Go.Proofs.YtchbdfcbogjhcaaGreatDoor
open Go Bx Go.Proofs.Tryz
theorem c_lout {a lo hi : Int} {w0 : World} : CV Tryz.prog 29 #[.int .i64 a, .int .i64 lo, .int .i64 hi] w0 (.bool (outB a lo hi)) := by
 refine enQ func29 rfl ntmps29 rfl fun hS => ?_
 refine seq <| region <| vA <| nil <| cwQ <| seq <| region <| vM <| vM <| sv (yLss rfl rfl) <| vM ?_
 refine sg rfl rfl rfl (fun g => (yMove rfl)) (fun v11 g11 => ?_)
 refine sg rfl rfl rfl (fun g => (yMove rfl)) (fun v12 g12 => ?_)
 refine sg rfl rfl rfl (fun g => (yGtr (g11.1 g) (g12.1 g))) (fun v13 g13 => ?_)
 refine sv (yOr rfl rfl (fun hB => (g13.1 hB))) <| vA <| nil <| cwQ <| wp_ret ?_
 exact rvQ hS
theorem c_never {w0 : World} : CV Tryz.prog 17 #[] w0 (.agg (plnC neverP).toArray) := by
 refine enQ func17 rfl ntmps17 rfl fun hS => ?_
 refine seq <| region ?_
 refine salloc hS zeroValue45 rfl fun b0 w hS => ?_
 refine nil <| cwQ <| seq <| region <| sv (yBuild zeroValue45 rfl pl45 (.cons rfl rfl (.cons rfl rfl .nil)) rfl) ?_
 refine sS hS rfl sizeOf45 fun w hS => ?_
 refine nil <| cwQ <| wp_ret ?_
 exact retV (resV1 rfl (rc rfl isAgg45 sizeOf45 (hS.at _) rfl rfl)) hS.ext
theorem c_last {c : Clt} {ar ap af ah ai : Option Addr} {cr cp cf ch ci : Nat} {g m : Nat} {w0 : World} (hg : w0.heap[g]? = some (.cells ((gcQ c ar ap af ah ai cr cp cf ch ci m) : List Value).toArray 108 (0, 0))) (hok : ClOk c) : CV Tryz.prog 45 #[ptQ g] w0 (.int .i64 (lastC c)) := by
 have hd := hok.del
 have hn := hok.n
 refine enQ func45 rfl ntmps45 rfl fun hS => ?_
 refine seq <| region <| vA <| nil <| cwQ <| seq <| region_draw mixed (by kernel_rfl) hS <| qv (fun w hS => yMove rfl) <| qv (fun w hS => yNil rfl) <| qv (fun w hS => fa108_2 rfl) <| qv (fun w hS => yLdB rfl isAgg3 (hS.ext.get hg) rfl) <| qv (fun w hS => ySubQ rfl rfl) <| qv (fun w hS => yMove rfl) ?_
 refine qv (fun w hS => yNil rfl) <| qv (fun w hS => fa108_0 rfl) <| qv (fun w hS => fa41_6 rfl) <| qv (fun w hS => yLdB rfl isAgg3 (hS.ext.get hg) rfl) <| qv (fun w hS => ySubQ rfl rfl) <| qv (fun w hS => yAsg rfl) ?_
 clear hS; refine qnil (fun w hS => ?_)
 refine cwQ <| wp_ret ?_
 exact rvQ hS
theorem c_plan {c : Clt} {ar ap af ah ai : Option Addr} {cr cp cf ch ci : Nat} {g m : Nat} {i : Int} {w0 : World} (hg : w0.heap[g]? = some (.cells ((gcQ c ar ap af ah ai cr cp cf ch ci m) : List Value).toArray 108 (0, 0))) (hok : ClOk c) (hi : -100 ≤ i ∧ i ≤ 100) : CV Tryz.prog 23 #[ptQ g, .int .i64 i] w0 (.agg (plnC (planC c i)).toArray) := by
 have hd := hok.del
 have hn := hok.n
 have hf := hok.frm
 have hq := quiet_le hok
 refine enQ func23 rfl ntmps23 rfl fun hS => ?_
 refine seq <| region ?_
 refine salloc hS zeroValue45 rfl fun b4 w hS => ?_
 refine nil <| cwQ <| seq ?_
 refine rmQ (fun w => w.heap[g]? = some (.cells ((gcQ c ar ap af ah ai cr cp cf ch ci m) : List Value).toArray 108 (0, 0))) (fun _ => True) [] [] mixed hS ?_; clear hS; intro w hS
 refine mQ 0 rfl (fun w hS => yMove rfl) <| mQ 1 rfl (fun w hS => yNil rfl) <| mQ 2 rfl (fun w hS => fa108_1 rfl) <| mq 1 3 [] (by kernel_rfl) rfl (hS.ext.get hg) (fun w hS => yLdB rfl isAgg3 hS rfl) <| mQ 4 rfl (fun w hS => yMove rfl) <| mQ 5 rfl (fun w hS => yAddQ rfl rfl) <| mQ 6 rfl (fun w hS => yMove rfl) <| mQ 7 rfl (fun w hS => yNil rfl) <| mQ 8 rfl (fun w hS => fa108_1 rfl) <| mq 1 9 [] (by kernel_rfl) rfl (hS.ext.get hg) (fun w hS => yLdB rfl isAgg3 hS rfl) <| mQ 10 rfl (fun w hS => yMove rfl) <| mQ 11 rfl (fun w hS => yNil rfl) <| mQ 12 rfl (fun w hS => fa108_3 rfl) ?_
 refine mq 1 13 [] (by kernel_rfl) rfl (hS.ext.get hg) (fun w hS => yLdB rfl isAgg3 hS rfl) <| mQ 14 rfl (fun w hS => yMove rfl) <| mQ 15 rfl (fun w hS => yMove rfl) <| mQ 16 rfl (fun w hS => yNil rfl) <| mQ 17 rfl (fun w hS => fa108_0 rfl) <| mQ 18 rfl (fun w hS => fa41_6 rfl) <| mq 1 19 [] (by kernel_rfl) rfl (hS.ext.get hg) (fun w hS => yLdB rfl isAgg3 hS rfl) <| mQ 20 rfl (fun w hS => yAddQ rfl rfl) <| mQ 21 rfl (fun w hS => yAddQ rfl rfl) <| mQ 22 rfl (fun w hS => yMax rfl rfl) <| mQ 23 rfl (fun w hS => yAddQ rfl rfl) <| mQ 24 rfl (fun w hS => yBuild zeroValue45 rfl pl45 (.cons rfl rfl (.cons rfl rfl .nil)) rfl) <| m1Q 25 rfl ?_
 refine sS hS rfl sizeOf45 fun w hS => ?_
 refine nil <| nnQ (hS.ext.get hg) <| mw <| me (by kernel_rfl) <| cwQ <| wp_ret ?_
 exact retV (resV1 rfl (rc rfl isAgg45 sizeOf45 (hS.at _) rfl rfl)) hS.ext
theorem c_StepX {b : Bas} {cs : List Value} {s : BSt} {qs : List Value} {t : BTk} {w0 : World} (h : RBas w0 cs b) (h2 : RBst w0 qs s) (hb0 : (checkB b).2.2 = 0) (hso : BstOk b s) (hI : I64 t.outer ∧ I64 t.river ∧ I64 t.out) :
  CE Tryz.prog 83 #[.agg cs.toArray, .agg qs.toArray, .agg (btkC t).toArray] w0 (fun u w' => ∃ vv a1 n1 c1 x1 x2 x3 x4 a2 n2 c2 its, u = .tuple #[.agg [.int .i64 vv, .slice a1 n1 c1].toArray, .agg [.int .i64 x1, .int .i64 x2, .int .i64 x3, .int .i64 x4, .slice a2 n2 c2].toArray, .int .i64 (stepE b s t)] ∧
   (stepE b s t = 0 → vv = (bstS b s t).volume ∧ ∀ w, (∀ it ∈ its, it.ok w) → RBst w [.int .i64 vv, .slice a1 n1 c1] (bstS b s t)) ∧ StX [] w0 w' [packI its]) := by
 obtain ⟨fv, rfl, -⟩ := id h2
 obtain ⟨rv, pv, rfl, -⟩ := id h
 have h1 := c_Step h h2 hb0 hso hI
 refine CE.mono h1 fun u w' hu => ?_
 rcases hu with ⟨he, rfl, hE⟩ | ⟨he, a1, n1, c1, a2, n2, c2, it, rfl, hit, hM⟩
 ·
  exact ⟨0, none, 0, 0, 0, 0, 0, 0, none, 0, 0, [], rfl, fun k => absurd k he, its0 (StX.step (St.start w0) hE)⟩
 exact ⟨_, a1, n1, c1, _, _, _, _, a2, n2, c2, [it], by rw [he]; rfl, fun _ => ⟨rfl, fun w hw => (hit w (hw it (List.mem_cons_self ..))).1⟩, its1 hM⟩
theorem c_run {c : Clt} {ar ap af ah ai : Option Addr} {cr cp cf ch ci : Nat} {g m : Nat} {k s : Nat} {es : List ((Int × Int) × Value)} {w0 w : World} {L9 : List Bx.Item} (hT : RClt w0 (ctQ c ar ap af ah ai cr cp cf ch ci) c) (hok : ClOk c) (hS : StX [] w0 w (blk g (gcQ c ar ap af ah ai cr cp cf ch ci m) 108 :: mapI m encSp es :: packI (vsI c es) :: L9)) (hk : k < c.hist.length) (hs : s < nC c) : CE Tryz.prog 57 #[ptQ g, .agg [.int .i64 (k : Int), .int .i64 (s : Int)].toArray] w (fun u w' => ∃ es' a cap, u = .slice a (volsC c k s).length cap ∧ (∀ w2 : World, (∀ it ∈ vsI c es', it.ok w2) → Sl w2 1 RInt u (volsC c k s)) ∧ StX [] w0 w' (blk g (gcQ c ar ap af ah ai cr cp cf ch ci m) 108 :: mapI m encSp es' :: packI (vsI c es') :: L9)) := by
 have hd := hok.del
 have hn := hok.n
 have hf := hok.frm
 have hr := hok.riv.1
 obtain ⟨hB, hFl, hFr, hH, hR⟩ := clt_parts hT
 have hbs : Sl w0 2 RBrow (.slice ar c.bas.rows.length cr) c.bas.rows := (by obtain ⟨_, _, e, h1, -⟩ := hB; cases e; exact h1)
 have hrl := hok.bas.len
 obtain ⟨br0, or0, cr0, har0, -, hcr0, hRr0, -⟩ := sl_at hbs (brow_get (b := c.bas) (show 0 < c.bas.rows.length by omega))
 obtain ⟨rfl, hr01, hr02⟩ := hRr0
 obtain ⟨bh, oh, ch2, hah, -, hch, hRh, -⟩ := sl_at hH (hsS_get hk)
 obtain ⟨vv0, rfl, hhf, hhv0⟩ := hRh
 have hhv : Sl w0 1 RInt vv0 (hsV c k) := hhv0
 obtain ⟨av, cv, rfl, -⟩ := id hhv
 have hhn : (hsV c k).length = nC c := (hok.his k hk).2.1
 have hvb := volsC_bd hok k s
 have hou : I64 c.out := by have := hok.out; unfold Bd at this; exact ⟨by omega, by omega⟩
 have hvs := getD_bd0 (hok.his k hk).2.2 ⟨by decide, by decide⟩ s
 unfold Bd at hvs
 have hl0 : -20000 ≤ (brow c.bas 0).level ∧ (brow c.bas 0).level ≤ 20000 := hok.bas.lv 0 (by omega)
 obtain ⟨bp0, op0, cp0, hap0, -, hcp0, hRp0, -⟩ := sl_at hhv (getD_get (l := (hsV c k)) (i := s) (by omega))
 obtain ⟨rfl, hip0⟩ := hRp0
 refine enter func57 rfl ntmps57 rfl ?_
 skip
 refine seq <| region ?_
 refine sbox hS rfl rfl fun b3 w hS => ?_
 refine vA <| nil <| cwQ <| seq <| seq <| region_draw mixed (by kernel_rfl) hS <| qv (fun w hS => yMove rfl) <| qv (fun w hS => yNil rfl) <| qv (fun w hS => fa108_4 rfl) <| qv (fun w hS => yLdB rfl isAgg106 (hS.at _) rfl) <| qv (fun w hS => yLdBA rfl isAgg155 sizeOf155 (hS.at _) rfl rfl) <| qv (fun w hS => yLookOk2 encSp (k := ((k : Int), (s : Int))) rfl rfl runUnderlying106 keyRun zeroValue30 (hS.is _) rfl) <| qv (fun w hS => yMove rfl) ?_
 refine qv (fun w hS => yExt rfl rfl) <| qv (fun w hS => yExt rfl rfl) <| qv (fun w hS => yAsg rfl) <| qv (fun w hS => yAsg rfl) ?_
 clear hS; refine qnil (fun w hS => ?_)
 refine cwQ <| seq <| region <| vM <| nil <| cwQ ?_
 refine cond rfl (fun c25 => ?_) (fun c25 => ?_)
 ·
  obtain ⟨v, hgv⟩ := Option.isSome_iff_exists.1 c25
  refine seq <| region <| vM <| vA <| nil <| cwQ ?_
  refine wp_ret (thenR ?_)
  refine retQ (res1 rfl rfl) ?_
  have hrow := vsI_get (k := k) (s := s) (hS.ok (packI (vsI c es)) (by simp)) hgv
  obtain ⟨a, cap, rfl⟩ := row_shape hrow
  refine ⟨es, a, cap, by rw [hgv]; rfl, fun w2 h2 => ?_, hS.sub (.cons _ lrQ)⟩
  show Sl w2 1 RInt ((getM es ((k : Int), (s : Int))).getD (.slice none 0 0)) _
  rw [hgv]
  exact sl_ints (vsI_get h2 hgv) rfl (volsC_i64 hok k s)
 have hgn : getM es ((k : Int), (s : Int)) = none := by simpa using c25
 refine skip <| cwQ <| seq ?_
 refine rmQ (fun w => w.heap[g]? = some (.cells ((gcQ c ar ap af ah ai cr cp cf ch ci m) : List Value).toArray 108 (0, 0)) ∧ w.heap[b3]? = some (.cells ([.int .i64 (k : Int), .int .i64 (s : Int)] : List Value).toArray 155 (0, 0)) ∧ Ext w0 w) (fun _ => True) [] [] mixed hS ?_; clear hS; intro w hS
 refine mQ 0 rfl (fun w hS => yMove rfl) <| mQ 1 rfl (fun w hS => yNil rfl) <| mQ 2 rfl (fun w hS => fa108_0 rfl) <| mQ 3 rfl (fun w hS => fa41_2 rfl) <| mq 1 4 [] (by kernel_rfl) rfl ⟨hS.at g, hS.at b3, hS.ext⟩ (fun w hS => yLdB rfl isAgg39 hS.1 rfl) <| mQ 5 rfl (fun w hS => fa155_0 rfl) <| mq 1 6 [] (by kernel_rfl) rfl ⟨hS.at g, hS.at b3, hS.ext⟩ (fun w hS => yLdB rfl isAgg3 hS.2.1 rfl) <| mQ 7 rfl (fun w hS => yIxQ rfl hah rfl runUnderlying39 sizeOf32) <| mQ 8 rfl (fun w hS => fa32_1 rfl) <| mq 1 9 [] (by kernel_rfl) rfl ⟨hS.at g, hS.at b3, hS.ext⟩ (fun w hS => yLd rfl isAgg30 ((hch.ext hS.2.2).at (j := 1) rfl)) <| mQ 10 rfl (fun w hS => yAsg rfl) <| me (by kernel_rfl) <| cwQ ?_
 refine seq ?_
 refine rmQ (fun w => w.heap[g]? = some (.cells ((gcQ c ar ap af ah ai cr cp cf ch ci m) : List Value).toArray 108 (0, 0)) ∧ w.heap[b3]? = some (.cells ([.int .i64 (k : Int), .int .i64 (s : Int)] : List Value).toArray 155 (0, 0)) ∧ Ext w0 w) (fun _ => True) [] [] mixed hS ?_; clear hS; intro w hS
 refine mQ 0 rfl (fun w hS => yMove rfl) <| mQ 1 rfl (fun w hS => yNil rfl) <| mQ 2 rfl (fun w hS => fa108_0 rfl) <| mQ 3 rfl (fun w hS => fa41_0 rfl) <| mq 1 4 [] (by kernel_rfl) rfl ⟨hS.at g, hS.at b3, hS.ext⟩ (fun w hS => yLdBA rfl isAgg38 sizeOf38 hS.1 rfl rfl) <| mQ 5 rfl (fun w hS => yMove rfl) <| mQ 6 rfl (fun w hS => fa155_1 rfl) <| mq 1 7 [] (by kernel_rfl) rfl ⟨hS.at g, hS.at b3, hS.ext⟩ (fun w hS => yLdB rfl isAgg3 hS.2.1 rfl) <| mQ 8 rfl (fun w hS => yIxQ rfl hap0 rfl runUnderlying30 sizeOf3) <| mq 1 9 [] (by kernel_rfl) rfl ⟨hS.at g, hS.at b3, hS.ext⟩ (fun w hS => yLd rfl isAgg3 (hcp0.ext hS.2.2).one) <| mQ 10 rfl (fun w hS => yMove rfl) <| mQ 11 rfl (fun w hS => yNil rfl) <| mQ 12 rfl (fun w hS => fa108_0 rfl) ?_
 refine mQ 13 rfl (fun w hS => fa41_0 rfl) <| mQ 14 rfl (fun w hS => fa38_0 rfl) <| mq 1 15 [] (by kernel_rfl) rfl ⟨hS.at g, hS.at b3, hS.ext⟩ (fun w hS => yLdB rfl isAgg35 hS.1 rfl) <| mQ 16 rfl (fun w hS => yIxa (m := 0) rfl har0 rfl runUnderlying35 sizeOf171 (by decide) (by omega)) <| mQ 17 rfl (fun w hS => fa171_0 rfl) <| mq 1 18 [] (by kernel_rfl) rfl ⟨hS.at g, hS.at b3, hS.ext⟩ (fun w hS => yLd rfl isAgg3 ((hcr0.ext hS.2.2).at (j := 0) rfl)) <| mQ 19 rfl (fun w hS => yMax rfl rfl) <| m1Q 20 rfl ?_
 refine scV hS call82 e2 (c_Volume (hB.ext hS.ext) hok.chk ⟨Int.le_max_right .., by first | omega | (unfold lvB; omega)⟩) ?_; clear hS; intro w hS
 refine nil <| nnQ ⟨hS.at g, hS.at b3, hS.ext⟩ <| mw <| mQ 21 rfl (fun w hS => yMove rfl) <| mQ 22 rfl (fun w hS => yExt rfl rfl) <| mQ 23 rfl (fun w hS => yExt rfl rfl) <| mQ 24 rfl (fun w hS => yAsg rfl) <| mQ 25 rfl (fun w hS => yAsg rfl) <| me (by kernel_rfl) <| cwQ <| seq <| region <| vM ?_
 refine vM <| sv (yNil rfl) <| sv (fa108_0 rfl) <| sv (fa41_1 rfl) <| vL rfl isAgg30 hS rfl <| sv (yBuild zeroValue183 rfl pl183 (.cons rfl rfl (.cons rfl rfl .nil)) rfl) <| vM ?_
 refine sbslice hS underlying30 sizeOf3 rfl zeroValue3 rfl (.cons rfl rfl .nil) rfl fun b69 w hS => ?_
 refine salloc hS zeroValue183 rfl fun b10 w hS => ?_
 refine sS hS rfl sizeOf183 fun w hS => ?_
 refine vA <| nil <| cwQ ?_
 refine seqJ (n := 125) (fun f w => ∃ (lv : Value), f 0 = ptQ g ∧ f 3 = ptQ b3 ∧ f 11 = lv ∧ StX [] w0 w (rowI lv 3 1 (volsC c k s).length ((volsC c k s).flatMap Bx.encI) :: blk b3 [.int .i64 (k : Int), .int .i64 (s : Int)] 155 :: blk g (gcQ c ar ap af ah ai cr cp cf ch ci m) 108 :: mapI m encSp es :: packI (vsI c es) :: L9) ∧ True) ?_ ?_
 ·
  refine seq <| region <| sv (fa155_1 rfl) <| vL rfl isAgg3 hS rfl <| vA <| nil <| cwQ <| block <| loop (fun f w zz => ∃ (i : Nat) (lv fvv : Value) (st : BSt) (pre : List Int) (its : List Bx.Item), f 0 = ptQ g ∧ f 3 = ptQ b3 ∧ f 7 = .slice av (hsV c k).length cv ∧ f 10 = ptQ b10 ∧ f 11 = lv ∧ f 12 = .int .i64 (i : Int) ∧ StX [] w0 w (blk b10 [.int .i64 st.volume, fvv] 183 :: rowI lv 3 1 pre.length (pre.flatMap Bx.encI) :: packI its :: blk b3 [.int .i64 (k : Int), .int .i64 (s : Int)] 155 :: blk g (gcQ c ar ap af ah ai cr cp cf ch ci m) 108 :: mapI m encSp es :: packI (vsI c es) :: L9) ∧ (s ≤ i ∧ i < nC c) ∧ (volsC c k s = pre ++ volsR c k (nC c - 1 - i) i st) ∧ (BstOk c.bas st) ∧ (RRun w0 c its fvv st) ∧ zz = nC c - i) _ ⟨_, rfl, s, _, _, ⟨vol0 c k s, c.filled⟩, [vol0 c k s], [], rfl, rfl, rfl, rfl, rfl, rfl, (run_pre (((hS.perm (.swap _ _ _)).toRow 1 1 rfl (by decide)).perm (.swap _ _ _))), (⟨Nat.le_refl _, hs⟩), (rfl), (st0_ok hok k s), (fun w2 e _ => ⟨_, rfl, volsC_i64 hok k s _ (List.mem_cons_self ..), hFl.ext RInt.stays e, hFr⟩), rfl⟩ ?_
  clear hS
  rintro f w _ ⟨i, lv, fvv, st, pre, its, h0, h3, h7, h10, h11, h12, hS, hi, hV, hst, hRR, rfl⟩
  refine seq <| seq <| region <| sv (yMove h12) <| sv (yAddQ rfl rfl) <| sv (yMove h0) <| sv (yNil rfl) <| sv (fa108_2 rfl) <| vL rfl isAgg3 hS rfl <| sv (yLss rfl rfl) <| nil <| cwQ ?_
  refine cond rfl ?_ ?_ <;> intro c78 <;> simp only [BS, ne_eq] at c78
  ·
   obtain ⟨mm, hm1⟩ : ∃ m, nC c - 1 - i = m + 1 := ⟨nC c - 1 - i - 1, by omega⟩
   rw [hm1] at hV
   have hpl : pre.length ≤ nC c + 1 := by have := congrArg List.length hV; rw [List.length_append] at this; omega
   obtain ⟨bp, op, cp, hap, -, hcp, hRp, -⟩ := sl_at hhv (getD_get (l := (hsV c k)) (i := i) (by omega))
   obtain ⟨rfl, hip⟩ := hRp
   obtain ⟨br, or, cr, har, -, hcr, hRr, -⟩ := sl_at hR (getD_get (l := c.river) (i := i) (by omega))
   obtain ⟨rfl, hir⟩ := hRr
   refine skip <| cwQ <| seq <| block ?_
   refine seqJ (n := 125) (fun f w => ∃ (b13 : Nat) (vv : Int) (a1 : Option Addr) (n1 c1 : Nat) (its2 : List Bx.Item), f 0 = ptQ g ∧ f 3 = ptQ b3 ∧ f 7 = .slice av (hsV c k).length cv ∧ f 10 = ptQ b10 ∧ f 11 = lv ∧ f 12 = .int .i64 (i : Int) ∧ f 13 = ptQ b13 ∧ f 15 = .int .i64 (stepE c.bas st (tkC c k i)) ∧ StX [] w0 w (blk b13 [.int .i64 vv, .slice a1 n1 c1] 183 :: packI its2 :: blk b10 [.int .i64 st.volume, fvv] 183 :: rowI lv 3 1 pre.length (pre.flatMap Bx.encI) :: packI its :: blk b3 [.int .i64 (k : Int), .int .i64 (s : Int)] 155 :: blk g (gcQ c ar ap af ah ai cr cp cf ch ci m) 108 :: mapI m encSp es :: packI (vsI c es) :: L9) ∧ (stepE c.bas st (tkC c k i) = 0 → vv = (bstS c.bas st (tkC c k i)).volume ∧ ∀ w : World, (∀ it ∈ its2, it.ok w) → RBst w [.int .i64 vv, .slice a1 n1 c1] (bstS c.bas st (tkC c k i))) ∧ True) ?_ ?_
   ·
    refine rmQ (fun w => w.heap[g]? = some (.cells ((gcQ c ar ap af ah ai cr cp cf ch ci m) : List Value).toArray 108 (0, 0)) ∧ w.heap[b10]? = some (.cells ([.int .i64 st.volume, fvv] : List Value).toArray 183 (0, 0)) ∧ Ext w0 w) (fun _ => True) [] [] mixed hS ?_; clear hS; intro w hS
    refine mQ 0 rfl (fun w hS => yMove h0) <| mQ 1 rfl (fun w hS => yNil rfl) <| mQ 2 rfl (fun w hS => fa108_0 rfl) <| mQ 3 rfl (fun w hS => fa41_0 rfl) <| mq 1 4 [] (by kernel_rfl) rfl ⟨hS.at g, hS.at b10, hS.ext⟩ (fun w hS => yLdBA rfl isAgg38 sizeOf38 hS.1 rfl rfl) <| mq 1 5 [] (by kernel_rfl) rfl ⟨hS.at g, hS.at b10, hS.ext⟩ (fun w hS => yLdBA h10 isAgg183 sizeOf183 hS.2.1 rfl rfl) <| mQ 6 rfl (fun w hS => yMove h7) <| mQ 7 rfl (fun w hS => yMove h12) <| mQ 8 rfl (fun w hS => yIxQ rfl hap rfl runUnderlying30 sizeOf3) <| mq 1 9 [] (by kernel_rfl) rfl ⟨hS.at g, hS.at b10, hS.ext⟩ (fun w hS => yLd rfl isAgg3 (hcp.ext hS.2.2).one) <| mQ 10 rfl (fun w hS => yMove h0) <| mQ 11 rfl (fun w hS => yNil rfl) <| mQ 12 rfl (fun w hS => fa108_0 rfl) ?_
    refine mQ 13 rfl (fun w hS => fa41_3 rfl) <| mq 1 14 [] (by kernel_rfl) rfl ⟨hS.at g, hS.at b10, hS.ext⟩ (fun w hS => yLdB rfl isAgg30 hS.1 rfl) <| mQ 15 rfl (fun w hS => yMove h12) <| mQ 16 rfl (fun w hS => yIxQ rfl har rfl runUnderlying30 sizeOf3) <| mq 1 17 [] (by kernel_rfl) rfl ⟨hS.at g, hS.at b10, hS.ext⟩ (fun w hS => yLd rfl isAgg3 (hcr.ext hS.2.2).one) <| mQ 18 rfl (fun w hS => yMove h0) <| mQ 19 rfl (fun w hS => yNil rfl) <| mQ 20 rfl (fun w hS => fa108_0 rfl) <| mQ 21 rfl (fun w hS => fa41_4 rfl) <| mq 1 22 [] (by kernel_rfl) rfl ⟨hS.at g, hS.at b10, hS.ext⟩ (fun w hS => yLdB rfl isAgg3 hS.1 rfl) <| mQ 23 rfl (fun w hS => yBuild zeroValue189 rfl pl189 (.cons rfl rfl (.cons rfl rfl (.cons rfl rfl .nil))) rfl) ?_
    refine ms (i := 24) (is := [29, 30]) (by kernel_rfl) ⟨⟨_, rfl, ?_⟩, ⟨_, rfl, ?_⟩, ⟨_, rfl, ?_⟩, trivial⟩
    ·
     refine scall call83 e3 (c_StepX (t := tkC c k i) (hB.ext hS.ext) (hRR w hS.ext (hS.ok (packI its) (by simp))) hok.chk hst ⟨hip, hir, hou⟩) ?_
     rintro _ w ⟨vv, a1, n1, c1, x1, x2, x3, x4, a2, n2, c2, its2, rfl, hst2, hM⟩; replace hS := hS.call1 hM; clear hM
     refine nil <| nnQ ⟨hS.at g, hS.at b10, hS.ext⟩ <| mw <| mQ 25 rfl (fun w hS => yMove rfl) <| mQ 26 rfl (fun w hS => yExt rfl rfl) <| mQ 27 rfl (fun w hS => yExt rfl rfl) <| mQ 28 rfl (fun w hS => yExt rfl rfl) ?_
     refine ms (i := 29) (is := [30]) (by kernel_rfl) ⟨⟨_, rfl, ?_⟩, ⟨_, rfl, ?_⟩, trivial⟩
     ·
      refine salloc hS zeroValue183 rfl fun b13 w hS => ?_
      refine nil <| nnQ ⟨hS.at g, hS.at b10, hS.ext⟩ <| mw <| m1Q 30 rfl ?_
      refine salloc hS zeroValue185 rfl fun b14 w hS => ?_
      refine nil <| nnQ ⟨hS.at g, hS.at b10, hS.ext⟩ <| mw <| m1Q 31 rfl ?_
      refine sS hS rfl sizeOf183 fun w hS => ?_
      refine nil <| nnQ ⟨hS.at g, hS.at b10, hS.ext⟩ <| mw <| m1Q 32 rfl ?_
      refine sS hS rfl sizeOf185 fun w hS => ?_
      refine nil <| nnQ ⟨hS.at g, hS.at b10, hS.ext⟩ <| mw <| mQ 33 rfl (fun w hS => yAsg rfl) <| me (by kernel_rfl) ?_
      exact ⟨_, rfl, b13, vv, a1, n1, c1, its2, h0, h3, h7, h10, h11, h12, rfl, rfl, (by first | (refine hS.sub ?_; (repeat first | exact List.Sublist.refl _ | exact List.nil_sublist _ | apply List.Sublist.cons_cons | apply List.Sublist.cons); done) | (refine StX.perm ?_ (.swap _ _ _); refine hS.sub ?_; (repeat first | exact List.Sublist.refl _ | exact List.nil_sublist _ | apply List.Sublist.cons_cons | apply List.Sublist.cons); done)), (hst2), trivial⟩
     refine salloc hS zeroValue185 rfl fun b14 w hS => ?_
     refine nil <| nnQ ⟨hS.at g, hS.at b10, hS.ext⟩ <| mw <| m1Q 29 rfl ?_
     refine salloc hS zeroValue183 rfl fun b13 w hS => ?_
     refine nil <| nnQ ⟨hS.at g, hS.at b10, hS.ext⟩ <| mw <| m1Q 31 rfl ?_
     refine sS hS rfl sizeOf183 fun w hS => ?_
     refine nil <| nnQ ⟨hS.at g, hS.at b10, hS.ext⟩ <| mw <| m1Q 32 rfl ?_
     refine sS hS rfl sizeOf185 fun w hS => ?_
     refine nil <| nnQ ⟨hS.at g, hS.at b10, hS.ext⟩ <| mw <| mQ 33 rfl (fun w hS => yAsg rfl) <| me (by kernel_rfl) ?_
     exact ⟨_, rfl, b13, vv, a1, n1, c1, its2, h0, h3, h7, h10, h11, h12, rfl, rfl, (by first | (refine hS.sub ?_; (repeat first | exact List.Sublist.refl _ | exact List.nil_sublist _ | apply List.Sublist.cons_cons | apply List.Sublist.cons); done) | (refine StX.perm ?_ (.swap _ _ _); refine hS.sub ?_; (repeat first | exact List.Sublist.refl _ | exact List.nil_sublist _ | apply List.Sublist.cons_cons | apply List.Sublist.cons); done)), (hst2), trivial⟩
    ·
     refine salloc hS zeroValue183 rfl fun b13 w hS => ?_
     refine nil <| nnQ ⟨hS.at g, hS.at b10, hS.ext⟩ <| mw ?_
     refine ms (i := 24) (is := [30]) (by kernel_rfl) ⟨⟨_, rfl, ?_⟩, ⟨_, rfl, ?_⟩, trivial⟩
     ·
      refine scall call83 e3 (c_StepX (t := tkC c k i) (hB.ext hS.ext) (hRR w hS.ext (hS.ok (packI its) (by simp))) hok.chk hst ⟨hip, hir, hou⟩) ?_
      rintro _ w ⟨vv, a1, n1, c1, x1, x2, x3, x4, a2, n2, c2, its2, rfl, hst2, hM⟩; replace hS := hS.call1 hM; clear hM
      refine nil <| nnQ ⟨hS.at g, hS.at b10, hS.ext⟩ <| mw <| mQ 25 rfl (fun w hS => yMove rfl) <| mQ 26 rfl (fun w hS => yExt rfl rfl) <| mQ 27 rfl (fun w hS => yExt rfl rfl) <| mQ 28 rfl (fun w hS => yExt rfl rfl) <| m1Q 30 rfl ?_
      refine salloc hS zeroValue185 rfl fun b14 w hS => ?_
      refine nil <| nnQ ⟨hS.at g, hS.at b10, hS.ext⟩ <| mw <| m1Q 31 rfl ?_
      refine sS hS rfl sizeOf183 fun w hS => ?_
      refine nil <| nnQ ⟨hS.at g, hS.at b10, hS.ext⟩ <| mw <| m1Q 32 rfl ?_
      refine sS hS rfl sizeOf185 fun w hS => ?_
      refine nil <| nnQ ⟨hS.at g, hS.at b10, hS.ext⟩ <| mw <| mQ 33 rfl (fun w hS => yAsg rfl) <| me (by kernel_rfl) ?_
      exact ⟨_, rfl, b13, vv, a1, n1, c1, its2, h0, h3, h7, h10, h11, h12, rfl, rfl, (by first | (refine hS.sub ?_; (repeat first | exact List.Sublist.refl _ | exact List.nil_sublist _ | apply List.Sublist.cons_cons | apply List.Sublist.cons); done) | (refine StX.perm ?_ (.swap _ _ _); refine hS.sub ?_; (repeat first | exact List.Sublist.refl _ | exact List.nil_sublist _ | apply List.Sublist.cons_cons | apply List.Sublist.cons); done)), (hst2), trivial⟩
     refine salloc hS zeroValue185 rfl fun b14 w hS => ?_
     refine nil <| nnQ ⟨hS.at g, hS.at b10, hS.ext⟩ <| mw <| m1Q 24 rfl ?_
     refine scall call83 e3 (c_StepX (t := tkC c k i) (hB.ext hS.ext) (hRR w hS.ext (hS.ok (packI its) (by simp))) hok.chk hst ⟨hip, hir, hou⟩) ?_
     rintro _ w ⟨vv, a1, n1, c1, x1, x2, x3, x4, a2, n2, c2, its2, rfl, hst2, hM⟩; replace hS := hS.call1 hM; clear hM
     refine nil <| nnQ ⟨hS.at g, hS.at b10, hS.ext⟩ <| mw <| mQ 25 rfl (fun w hS => yMove rfl) <| mQ 26 rfl (fun w hS => yExt rfl rfl) <| mQ 27 rfl (fun w hS => yExt rfl rfl) <| mQ 28 rfl (fun w hS => yExt rfl rfl) <| m1Q 31 rfl ?_
     refine sS hS rfl sizeOf183 fun w hS => ?_
     refine nil <| nnQ ⟨hS.at g, hS.at b10, hS.ext⟩ <| mw <| m1Q 32 rfl ?_
     refine sS hS rfl sizeOf185 fun w hS => ?_
     refine nil <| nnQ ⟨hS.at g, hS.at b10, hS.ext⟩ <| mw <| mQ 33 rfl (fun w hS => yAsg rfl) <| me (by kernel_rfl) ?_
     exact ⟨_, rfl, b13, vv, a1, n1, c1, its2, h0, h3, h7, h10, h11, h12, rfl, rfl, (by first | (refine hS.sub ?_; (repeat first | exact List.Sublist.refl _ | exact List.nil_sublist _ | apply List.Sublist.cons_cons | apply List.Sublist.cons); done) | (refine StX.perm ?_ (.swap _ _ _); refine hS.sub ?_; (repeat first | exact List.Sublist.refl _ | exact List.nil_sublist _ | apply List.Sublist.cons_cons | apply List.Sublist.cons); done)), (hst2), trivial⟩
    refine salloc hS zeroValue185 rfl fun b14 w hS => ?_
    refine nil <| nnQ ⟨hS.at g, hS.at b10, hS.ext⟩ <| mw ?_
    refine ms (i := 24) (is := [29]) (by kernel_rfl) ⟨⟨_, rfl, ?_⟩, ⟨_, rfl, ?_⟩, trivial⟩
    ·
     refine scall call83 e3 (c_StepX (t := tkC c k i) (hB.ext hS.ext) (hRR w hS.ext (hS.ok (packI its) (by simp))) hok.chk hst ⟨hip, hir, hou⟩) ?_
     rintro _ w ⟨vv, a1, n1, c1, x1, x2, x3, x4, a2, n2, c2, its2, rfl, hst2, hM⟩; replace hS := hS.call1 hM; clear hM
     refine nil <| nnQ ⟨hS.at g, hS.at b10, hS.ext⟩ <| mw <| mQ 25 rfl (fun w hS => yMove rfl) <| mQ 26 rfl (fun w hS => yExt rfl rfl) <| mQ 27 rfl (fun w hS => yExt rfl rfl) <| mQ 28 rfl (fun w hS => yExt rfl rfl) <| m1Q 29 rfl ?_
     refine salloc hS zeroValue183 rfl fun b13 w hS => ?_
     refine nil <| nnQ ⟨hS.at g, hS.at b10, hS.ext⟩ <| mw <| m1Q 31 rfl ?_
     refine sS hS rfl sizeOf183 fun w hS => ?_
     refine nil <| nnQ ⟨hS.at g, hS.at b10, hS.ext⟩ <| mw <| m1Q 32 rfl ?_
     refine sS hS rfl sizeOf185 fun w hS => ?_
     refine nil <| nnQ ⟨hS.at g, hS.at b10, hS.ext⟩ <| mw <| mQ 33 rfl (fun w hS => yAsg rfl) <| me (by kernel_rfl) ?_
     exact ⟨_, rfl, b13, vv, a1, n1, c1, its2, h0, h3, h7, h10, h11, h12, rfl, rfl, (by first | (refine hS.sub ?_; (repeat first | exact List.Sublist.refl _ | exact List.nil_sublist _ | apply List.Sublist.cons_cons | apply List.Sublist.cons); done) | (refine StX.perm ?_ (.swap _ _ _); refine hS.sub ?_; (repeat first | exact List.Sublist.refl _ | exact List.nil_sublist _ | apply List.Sublist.cons_cons | apply List.Sublist.cons); done)), (hst2), trivial⟩
    refine salloc hS zeroValue183 rfl fun b13 w hS => ?_
    refine nil <| nnQ ⟨hS.at g, hS.at b10, hS.ext⟩ <| mw <| m1Q 24 rfl ?_
    refine scall call83 e3 (c_StepX (t := tkC c k i) (hB.ext hS.ext) (hRR w hS.ext (hS.ok (packI its) (by simp))) hok.chk hst ⟨hip, hir, hou⟩) ?_
    rintro _ w ⟨vv, a1, n1, c1, x1, x2, x3, x4, a2, n2, c2, its2, rfl, hst2, hM⟩; replace hS := hS.call1 hM; clear hM
    refine nil <| nnQ ⟨hS.at g, hS.at b10, hS.ext⟩ <| mw <| mQ 25 rfl (fun w hS => yMove rfl) <| mQ 26 rfl (fun w hS => yExt rfl rfl) <| mQ 27 rfl (fun w hS => yExt rfl rfl) <| mQ 28 rfl (fun w hS => yExt rfl rfl) <| m1Q 31 rfl ?_
    refine sS hS rfl sizeOf183 fun w hS => ?_
    refine nil <| nnQ ⟨hS.at g, hS.at b10, hS.ext⟩ <| mw <| m1Q 32 rfl ?_
    refine sS hS rfl sizeOf185 fun w hS => ?_
    refine nil <| nnQ ⟨hS.at g, hS.at b10, hS.ext⟩ <| mw <| mQ 33 rfl (fun w hS => yAsg rfl) <| me (by kernel_rfl) ?_
    exact ⟨_, rfl, b13, vv, a1, n1, c1, its2, h0, h3, h7, h10, h11, h12, rfl, rfl, (by first | (refine hS.sub ?_; (repeat first | exact List.Sublist.refl _ | exact List.nil_sublist _ | apply List.Sublist.cons_cons | apply List.Sublist.cons); done) | (refine StX.perm ?_ (.swap _ _ _); refine hS.sub ?_; (repeat first | exact List.Sublist.refl _ | exact List.nil_sublist _ | apply List.Sublist.cons_cons | apply List.Sublist.cons); done)), (hst2), trivial⟩
   clear hS; rintro f w ⟨b13, vv, a1, n1, c1, its2, h0, h3, h7, h10, h11, h12, h13, h15, hS, hst2, -⟩
   refine seq <| seq <| region <| sv (yMove h15) <| sv (yNeq rfl rfl) <| nil <| cwQ ?_
   refine cond rfl ?_ ?_ <;> intro c111 <;> simp only [BS, ne_eq] at c111
   ·
    have hend : volsC c k s = pre := volsR_stop hV c111
    refine exit ?_
    exact ⟨_, rfl, lv, h0, h3, h11, (by rw [hend]; exact sbQ hS), trivial⟩
   obtain ⟨rfl, hR2⟩ := hst2 c111
   refine skip <| cwQ ?_
   refine rmQ (fun w => w.heap[b13]? = some (.cells ([.int .i64 (bstS c.bas st (tkC c k i)).volume, .slice a1 n1 c1] : List Value).toArray 183 (0, 0))) (fun _ => True) [] [] mixed hS ?_; clear hS; intro w hS
   refine mq 1 0 [] (by kernel_rfl) rfl (hS.at b13) (fun w hS => yLdBA h13 isAgg183 sizeOf183 hS rfl rfl) <| mQ 1 rfl (fun w hS => yMove h11) <| mQ 2 rfl (fun w hS => fa183_0 h13) <| mq 1 3 [] (by kernel_rfl) rfl (hS.at b13) (fun w hS => yLdB rfl isAgg3 hS rfl) <| m1Q 4 rfl ?_
   refine sbslice hS underlying30 sizeOf3 rfl zeroValue3 rfl (.cons rfl rfl .nil) rfl fun b116 w hS => ?_
   refine nil <| nnQ (hS.at b13) <| mw <| m1Q 5 rfl ?_
   refine sapp (bytes := 8) (size := 1) (v := lv) (m := 1) hS rfl rfl underlying30 ti3 rfl rfl rfl rfl (by decide) (blk_cells (hS.at _)) rfl rfl (by omega) (by omega) ?_; clear hS; intro v117 w hS
   refine nil <| nnQ (hS.at b13) <| mw <| m1Q 6 rfl ?_
   refine sS hS h10 sizeOf183 fun w hS => ?_
   refine nil <| nnQ (hS.at b13) <| mw <| mQ 7 rfl (fun w hS => yAsg rfl) <| me (by kernel_rfl) <| cwQ <| region <| sv (yMove h12) <| sv (yAddQ rfl rfl) <| vA <| nil ?_
   exact ⟨_, _, rfl, ⟨i + 1, _, _, bstS c.bas st (tkC c k i), pre ++ [(bstS c.bas st (tkC c k i)).volume], its2, h0, h3, h7, h10, rfl, rfl, (by rw [List.flatMap_append, List.length_append]; exact run_next hS), (⟨by omega, by omega⟩), (by rw [show nC c - 1 - (i + 1) = mm by omega]; exact volsR_step hV c111), (st_next hok hst c111), (fun w2 _ hi => hR2 w2 hi), rfl⟩, by omega⟩
  have hend : volsC c k s = pre := volsR_end hV (by omega)
  refine exit ?_
  exact ⟨_, rfl, lv, h0, h3, h11, (by rw [hend]; exact sbQ hS), trivial⟩
 clear hS; rintro f w ⟨lv, h0, h3, h11, hS, -⟩
 refine seq ?_
 refine rmQ (fun w => w.heap[g]? = some (.cells ((gcQ c ar ap af ah ai cr cp cf ch ci m) : List Value).toArray 108 (0, 0)) ∧ w.heap[b3]? = some (.cells ([.int .i64 (k : Int), .int .i64 (s : Int)] : List Value).toArray 155 (0, 0)) ∧ Ext w0 w) (fun _ => True) [] [] mixed hS ?_; clear hS; intro w hS
 refine mQ 0 rfl (fun w hS => yMove h0) <| mQ 1 rfl (fun w hS => yNil rfl) <| mQ 2 rfl (fun w hS => fa108_4 rfl) <| mq 1 3 [] (by kernel_rfl) rfl ⟨hS.at g, hS.at b3, hS.ext⟩ (fun w hS => yLdB rfl isAgg106 hS.1 rfl) <| mq 1 4 [] (by kernel_rfl) rfl ⟨hS.at g, hS.at b3, hS.ext⟩ (fun w hS => yLdBA h3 isAgg155 sizeOf155 hS.2.1 rfl rfl) <| mQ 5 rfl (fun w hS => yMove h11) <| m1Q 6 rfl ?_
 refine smapset2 encSp (k := ((k : Int), (s : Int))) (v := lv) hS rfl rfl rfl runUnderlying106 keyRun ?_; clear hS; intro w hS
 rw [setM_new hgn] at hS
 refine nil <| nnQ ⟨hS.at g, hS.at b3, hS.ext⟩ <| mw <| me (by kernel_rfl) <| cwQ <| seq <| region <| sv (yMove h11) <| vA <| nil <| cwQ <| wp_ret <| retQ (res1 rfl rfl) ?_
 obtain ⟨a, cap, rfl⟩ := row_shape (hS.row lv)
 exact ⟨es ++ [(((k : Int), (s : Int)), .slice a (volsC c k s).length cap)], a, cap, rfl, fun w2 h2 => sl_ints (h2 (rowI (.slice a (volsC c k s).length cap) 3 1 (volsC c k s).length ((volsC c k s).flatMap Bx.encI)) (by rw [vsI_snoc]; simp)) rfl (volsC_i64 hok k s), by rw [vsI_snoc]; exact run_end hS⟩
theorem c_inside {c : Clt} {ar ap af ah ai : Option Addr} {cr cp cf ch ci : Nat} {g m : Nat} {k i : Nat} {p : Pln} {es : List ((Int × Int) × Value)} {w0 w : World} {L9 : List Bx.Item} (hT : RClt w0 (ctQ c ar ap af ah ai cr cp cf ch ci) c) (hok : ClOk c) (hS : StX [] w0 w (blk g (gcQ c ar ap af ah ai cr cp cf ch ci m) 108 :: mapI m encSp es :: packI (vsI c es) :: L9)) (hk : k < c.hist.length) (hp : PlnOk c p) (hi : i < nC c) : CE Tryz.prog 30 #[ptQ g, .int .i64 (k : Int), .agg (plnC p).toArray, .int .i64 (i : Int)] w (fun u w' => ∃ es', u = .tuple #[.agg (spanC (inS c k p i)).toArray, .bool (inC c k p i).isSome] ∧ StX [] w0 w' (blk g (gcQ c ar ap af ah ai cr cp cf ch ci m) 108 :: mapI m encSp es' :: packI (vsI c es') :: L9)) := by
 have hd := hok.del
 have hn := hok.n
 have hf := hok.frm
 have hr := hok.riv.1
 obtain ⟨hB, hFl, hFr, hH, hR⟩ := clt_parts hT
 obtain ⟨bh, oh, ch2, hah, -, hch, hRh, -⟩ := sl_at hH (hsS_get hk)
 obtain ⟨vv0, rfl, hhf, hhv0⟩ := hRh
 have hhv : Sl w0 1 RInt vv0 (hsV c k) := hhv0
 obtain ⟨av, cv, rfl, -⟩ := id hhv
 have hhn : (hsV c k).length = nC c := (hok.his k hk).2.1
 obtain ⟨bq, oq, cq, haq, -, hcq, hRq, -⟩ := sl_at hhv (getD_get (l := (hsV c k)) (i := i) (by omega))
 obtain ⟨rfl, hiq⟩ := hRq
 have hpb : -1 ≤ p.close ∧ p.close ≤ 300000 ∧ -1 ≤ p.opn ∧ p.opn ≤ 1000000 := by
  rcases hp with e | e
  ·
   rw [e]; decide
  unfold lastC at e; omega
 refine enter func30 rfl ntmps30 rfl ?_
 skip
 refine seq <| region ?_
 refine sbox hS rfl rfl fun b6 w hS => ?_
 refine salloc hS zeroValue69 rfl fun b8 w hS => ?_
 refine vA <| nil <| cwQ <| seq ?_
 refine rmQ (fun w => StX [] w0 w (blk b8 [.int .i64 0, .int .i64 0] 69 :: blk b6 [.int .i64 p.close, .int .i64 p.opn] 45 :: blk g (gcQ c ar ap af ah ai cr cp cf ch ci m) 108 :: mapI m encSp es :: packI (vsI c es) :: L9)) (fun _ => True) [] [] mixed hS ?_; clear hS; intro w hS
 refine mQ 0 rfl (fun w hS => fa45_0 rfl) <| mq 1 1 [] (by kernel_rfl) rfl (sbQ hS) (fun w hS => yLdB rfl isAgg3 (hS.at _) rfl) <| mQ 2 rfl (fun w hS => yMove rfl) <| mQ 3 rfl (fun w hS => yNil rfl) <| mQ 4 rfl (fun w hS => fa108_1 rfl) <| mq 1 5 [] (by kernel_rfl) rfl (sbQ hS) (fun w hS => yLdB rfl isAgg3 (hS.at _) rfl) <| mQ 6 rfl (fun w hS => ySubQ rfl rfl) <| mQ 7 rfl (fun w hS => yMove rfl) <| mQ 8 rfl (fun w hS => yNil rfl) <| mQ 9 rfl (fun w hS => fa108_0 rfl) <| mQ 10 rfl (fun w hS => fa41_6 rfl) <| mq 1 11 [] (by kernel_rfl) rfl (sbQ hS) (fun w hS => yLdB rfl isAgg3 (hS.at _) rfl) <| mQ 12 rfl (fun w hS => yAddQ rfl rfl) ?_
 refine mQ 13 rfl (fun w hS => yAsg rfl) <| me (by kernel_rfl) <| cwQ ?_
 refine seqJ (n := 90) (fun f w => f 0 = ptQ g ∧ f 1 = .int .i64 (k : Int) ∧ f 3 = .int .i64 (i : Int) ∧ f 6 = ptQ b6 ∧ f 8 = ptQ b8 ∧ f 10 = .int .i64 (p.close - frC c + c.delay) ∧ StX [] w0 w (blk b8 [.int .i64 0, .int .i64 0] 69 :: blk b6 [.int .i64 p.close, .int .i64 p.opn] 45 :: blk g (gcQ c ar ap af ah ai cr cp cf ch ci m) 108 :: mapI m encSp es :: packI (vsI c es) :: L9) ∧ (opnC c p i = false) ∧ True) ?_ ?_
 ·
  refine seq ?_
  rcases opn3 c p i with hc3 | ⟨hc3, hc4⟩ | ⟨hc3, hc4⟩
  ·
   refine region_mix (fun w => StX [] w0 w (blk b8 [.int .i64 0, .int .i64 0] 69 :: blk b6 [.int .i64 p.close, .int .i64 p.opn] 45 :: blk g (gcQ c ar ap af ah ai cr cp cf ch ci m) 108 :: mapI m encSp es :: packI (vsI c es) :: L9)) 19 mixed hS ?_
   clear hS; intro w hS
   refine fsQ 0 rfl (fun w hS => yLdBA rfl isAgg45 sizeOf45 (hS.at _) rfl rfl) <| awQ <| a1Q 1 rfl ?_
   refine scV hS call17 .nil c_never fun w hS => ?_
   refine nil <| kpQ <| awQ <| fsQ 2 rfl (fun w hS => eqS45 rfl rfl) <| fsQ 3 rfl (fun w hS => yMove rfl) <| fkR 4 rfl rfl (sbQ hS) rfl (nvQ hc3) <| fkR 5 rfl rfl (sbQ hS) rfl (nvQ hc3) <| fkR 6 rfl rfl (sbQ hS) rfl (nvQ hc3) <| fsQ 7 rfl (fun w hS => yOr1 rfl (never_yes hc3) rfl) <| fsQ 8 rfl (fun w hS => yMove rfl) <| fkR 9 rfl rfl (sbQ hS) (u := .bool true) rfl (by simp) <| fkR 10 rfl rfl (sbQ hS) (u := .bool true) rfl (by simp) <| fkR 11 rfl rfl (sbQ hS) (u := .bool true) rfl (by simp) ?_
   refine fkR 12 rfl rfl (sbQ hS) (u := .bool true) rfl (by simp) <| fkR 13 rfl rfl (sbQ hS) (u := .bool true) rfl (by simp) <| fkR 14 rfl rfl (sbQ hS) (u := .bool true) rfl (by simp) <| fkR 15 rfl rfl (sbQ hS) (u := .bool true) rfl (by simp) <| fkR 16 rfl rfl (sbQ hS) (u := .bool true) rfl (by simp) <| fkR 17 rfl rfl (sbQ hS) (u := .bool true) rfl (by simp) <| fsQ 18 rfl (fun w hS => yOr1 rfl rfl rfl) <| a_end (by kernel_rfl) <| cwQ ?_
   refine cond rfl (fun c46 => ?_) (fun c46 => ?_)
   ·
    have hop : opnC c p i = true := by first | exact opn_a hc3 | exact opn_b hc4 | exact (opn_c hc3 hc4).trans c46
    have hin := in_open (k := k) hop
    refine seq <| region <| vM <| sv (yNil rfl) <| sv (fa108_0 rfl) <| sv (fa41_2 rfl) <| vL rfl isAgg39 hS rfl <| vM <| sv (yIxQ rfl hah rfl runUnderlying39 sizeOf32) <| sv (fa32_1 rfl) <| sv (yLd rfl isAgg30 ((hch.ext hS.ext).at (j := 1) rfl)) <| vM <| sv (yIxQ rfl haq rfl runUnderlying30 sizeOf3) ?_
    refine sv (yLd rfl isAgg3 (hcq.ext hS.ext).one) <| vA <| nil <| cwQ <| seq <| region <| vM <| vM <| sv (yBuild zeroValue69 rfl pl69 (.cons rfl rfl (.cons rfl rfl .nil)) rfl) ?_
    refine sS hS rfl sizeOf69 fun w hS => ?_
    refine vA <| nil <| cwQ ?_
    refine wp_ret (thenR ?_)
    refine retQ (resV2 rfl (rc rfl isAgg69 sizeOf69 (hS.at _) rfl rfl) (rt rfl)) ?_
    unfold inS
    rw [hin]
    exact ⟨_, rfl, by exact sbQ hS⟩
   have hop : opnC c p i = false := by first | cases c46 | exact (opn_c hc3 hc4).trans c46
   refine skip ?_
   exact ⟨_, rfl, rfl, rfl, rfl, rfl, rfl, rfl, (sbQ hS), (hop), trivial⟩
  ·
   refine region_mix (fun w => StX [] w0 w (blk b8 [.int .i64 0, .int .i64 0] 69 :: blk b6 [.int .i64 p.close, .int .i64 p.opn] 45 :: blk g (gcQ c ar ap af ah ai cr cp cf ch ci m) 108 :: mapI m encSp es :: packI (vsI c es) :: L9)) 19 mixed hS ?_
   clear hS; intro w hS
   refine fsQ 0 rfl (fun w hS => yLdBA rfl isAgg45 sizeOf45 (hS.at _) rfl rfl) <| awQ <| a1Q 1 rfl ?_
   refine scV hS call17 .nil c_never fun w hS => ?_
   refine nil <| kpQ <| awQ <| fsQ 2 rfl (fun w hS => eqS45 rfl rfl) <| fsQ 3 rfl (fun w hS => yMove rfl) <| fgR 4 rfl rfl (sbQ hS) (congrArg Value.bool (never_no hc3)) (fun w hS => yMove rfl) <| fgR 5 rfl rfl (sbQ hS) (congrArg Value.bool (never_no hc3)) (fun w hS => yMove rfl) <| fgR 6 rfl rfl (sbQ hS) (congrArg Value.bool (never_no hc3)) (fun w hS => yLeq rfl rfl) <| fsQ 7 rfl (fun w hS => Y.to (yOr0 rfl (never_no hc3) rfl rfl) (congrArg Value.bool (decide_eq_true hc4))) <| fsQ 8 rfl (fun w hS => yMove rfl) <| fkR 9 rfl rfl (sbQ hS) (u := .bool true) rfl (by simp) <| fkR 10 rfl rfl (sbQ hS) (u := .bool true) rfl (by simp) <| fkR 11 rfl rfl (sbQ hS) (u := .bool true) rfl (by simp) ?_
   refine fkR 12 rfl rfl (sbQ hS) (u := .bool true) rfl (by simp) <| fkR 13 rfl rfl (sbQ hS) (u := .bool true) rfl (by simp) <| fkR 14 rfl rfl (sbQ hS) (u := .bool true) rfl (by simp) <| fkR 15 rfl rfl (sbQ hS) (u := .bool true) rfl (by simp) <| fkR 16 rfl rfl (sbQ hS) (u := .bool true) rfl (by simp) <| fkR 17 rfl rfl (sbQ hS) (u := .bool true) rfl (by simp) <| fsQ 18 rfl (fun w hS => yOr1 rfl rfl rfl) <| a_end (by kernel_rfl) <| cwQ ?_
   refine cond rfl (fun c46 => ?_) (fun c46 => ?_)
   ·
    have hop : opnC c p i = true := by first | exact opn_a hc3 | exact opn_b hc4 | exact (opn_c hc3 hc4).trans c46
    have hin := in_open (k := k) hop
    refine seq <| region <| vM <| sv (yNil rfl) <| sv (fa108_0 rfl) <| sv (fa41_2 rfl) <| vL rfl isAgg39 hS rfl <| vM <| sv (yIxQ rfl hah rfl runUnderlying39 sizeOf32) <| sv (fa32_1 rfl) <| sv (yLd rfl isAgg30 ((hch.ext hS.ext).at (j := 1) rfl)) <| vM <| sv (yIxQ rfl haq rfl runUnderlying30 sizeOf3) ?_
    refine sv (yLd rfl isAgg3 (hcq.ext hS.ext).one) <| vA <| nil <| cwQ <| seq <| region <| vM <| vM <| sv (yBuild zeroValue69 rfl pl69 (.cons rfl rfl (.cons rfl rfl .nil)) rfl) ?_
    refine sS hS rfl sizeOf69 fun w hS => ?_
    refine vA <| nil <| cwQ ?_
    refine wp_ret (thenR ?_)
    refine retQ (resV2 rfl (rc rfl isAgg69 sizeOf69 (hS.at _) rfl rfl) (rt rfl)) ?_
    unfold inS
    rw [hin]
    exact ⟨_, rfl, by exact sbQ hS⟩
   have hop : opnC c p i = false := by first | cases c46 | exact (opn_c hc3 hc4).trans c46
   refine skip ?_
   exact ⟨_, rfl, rfl, rfl, rfl, rfl, rfl, rfl, (sbQ hS), (hop), trivial⟩
  refine region_mix (fun w => StX [] w0 w (blk b8 [.int .i64 0, .int .i64 0] 69 :: blk b6 [.int .i64 p.close, .int .i64 p.opn] 45 :: blk g (gcQ c ar ap af ah ai cr cp cf ch ci m) 108 :: mapI m encSp es :: packI (vsI c es) :: L9)) 19 mixed hS ?_
  clear hS; intro w hS
  refine fsQ 0 rfl (fun w hS => yLdBA rfl isAgg45 sizeOf45 (hS.at _) rfl rfl) <| awQ <| a1Q 1 rfl ?_
  refine scV hS call17 .nil c_never fun w hS => ?_
  refine nil <| kpQ <| awQ <| fsQ 2 rfl (fun w hS => eqS45 rfl rfl) <| fsQ 3 rfl (fun w hS => yMove rfl) <| fgR 4 rfl rfl (sbQ hS) (congrArg Value.bool (never_no hc3)) (fun w hS => yMove rfl) <| fgR 5 rfl rfl (sbQ hS) (congrArg Value.bool (never_no hc3)) (fun w hS => yMove rfl) <| fgR 6 rfl rfl (sbQ hS) (congrArg Value.bool (never_no hc3)) (fun w hS => yLeq rfl rfl) <| fsQ 7 rfl (fun w hS => Y.to (yOr0 rfl (never_no hc3) rfl rfl) (congrArg Value.bool (decide_eq_false hc4))) <| fsQ 8 rfl (fun w hS => yMove rfl) <| fgR 9 rfl rfl (sbQ hS) rfl (fun w hS => yMove rfl) <| fgR 10 rfl rfl (sbQ hS) rfl (fun w hS => fa45_1 rfl) <| fgR 11 rfl rfl (sbQ hS) rfl (fun w hS => yLdB rfl isAgg3 (hS.at _) rfl) ?_
  refine fgR 12 rfl rfl (sbQ hS) rfl (fun w hS => yMove rfl) <| fgR 13 rfl rfl (sbQ hS) rfl (fun w hS => yNil rfl) <| fgR 14 rfl rfl (sbQ hS) rfl (fun w hS => fa108_1 rfl) <| fgR 15 rfl rfl (sbQ hS) rfl (fun w hS => yLdB rfl isAgg3 (hS.at _) rfl) <| fgR 16 rfl rfl (sbQ hS) rfl (fun w hS => ySubQ rfl rfl) <| fgR 17 rfl rfl (sbQ hS) rfl (fun w hS => yGeq rfl rfl) <| fsQ 18 rfl (fun w hS => yOr0 rfl rfl rfl rfl) <| a_end (by kernel_rfl) <| cwQ ?_
  refine cond rfl (fun c46 => ?_) (fun c46 => ?_)
  ·
   have hop : opnC c p i = true := by first | exact opn_a hc3 | exact opn_b hc4 | exact (opn_c hc3 hc4).trans c46
   have hin := in_open (k := k) hop
   refine seq <| region <| vM <| sv (yNil rfl) <| sv (fa108_0 rfl) <| sv (fa41_2 rfl) <| vL rfl isAgg39 hS rfl <| vM <| sv (yIxQ rfl hah rfl runUnderlying39 sizeOf32) <| sv (fa32_1 rfl) <| sv (yLd rfl isAgg30 ((hch.ext hS.ext).at (j := 1) rfl)) <| vM <| sv (yIxQ rfl haq rfl runUnderlying30 sizeOf3) ?_
   refine sv (yLd rfl isAgg3 (hcq.ext hS.ext).one) <| vA <| nil <| cwQ <| seq <| region <| vM <| vM <| sv (yBuild zeroValue69 rfl pl69 (.cons rfl rfl (.cons rfl rfl .nil)) rfl) ?_
   refine sS hS rfl sizeOf69 fun w hS => ?_
   refine vA <| nil <| cwQ ?_
   refine wp_ret (thenR ?_)
   refine retQ (resV2 rfl (rc rfl isAgg69 sizeOf69 (hS.at _) rfl rfl) (rt rfl)) ?_
   unfold inS
   rw [hin]
   exact ⟨_, rfl, by exact sbQ hS⟩
  have hop : opnC c p i = false := by first | cases c46 | exact (opn_c hc3 hc4).trans c46
  refine skip ?_
  exact ⟨_, rfl, rfl, rfl, rfl, rfl, rfl, rfl, (sbQ hS), (hop), trivial⟩
 clear hS; rintro f w ⟨h0, h1, h3, h6, h8, h10, hS, hop, -⟩
 have hnv : p ≠ neverP := fun e => by rw [opn_a e] at hop; cases hop
 have hpc := hp.resolve_left hnv
 unfold lastC at hpc
 have hsl : ¬ (i : Int) ≤ p.close - frC c + c.delay := fun e => by rw [opn_b e] at hop; cases hop
 obtain ⟨sh, hsh⟩ := Int.eq_ofNat_of_zero_le (show 0 ≤ p.close - frC c + c.delay by omega)
 have hsi : sh < i := by omega
 rw [hsh] at h10
 replace hS : StX [] w0 w (blk g (gcQ c ar ap af ah ai cr cp cf ch ci m) 108 :: mapI m encSp es :: packI (vsI c es) :: blk b8 [.int .i64 0, .int .i64 0] 69 :: blk b6 [.int .i64 p.close, .int .i64 p.opn] 45 :: L9) := hS.perm (List.perm_append_comm_assoc [_, _] [_, _, _] _)
 refine seq <| region <| sv (yMove h0) <| sv (yMove h1) <| sv (yMove h10) <| sv (yBuild zeroValue155 rfl pl155 (.cons rfl rfl (.cons rfl rfl .nil)) rfl) ?_
 refine scall call57 e2 (c_run hT hok hS hk (by omega)) ?_
 clear hS; rintro _ w ⟨es', al, cl, rfl, hvs, hS⟩
 refine vA <| nil <| cwQ <| seq <| seq <| region <| sv (yMove h3) <| sv (yMove h10) <| sv (ySubQ rfl rfl) <| vM <| sv (yLen rfl underlying30) <| sv (yGeq rfl rfl) <| nil ?_
 refine cwQ ?_
 refine cond rfl ?_ ?_ <;> intro c72 <;> simp only [BS, ne_eq] at c72
 ·
  have hin := in_no (k := k) hop hsh (by omega)
  refine seq <| region <| sv (yBuild zeroValue69 rfl pl69 .nil rfl) ?_
  refine sS hS h8 sizeOf69 fun w hS => ?_
  refine vA <| nil <| cwQ ?_
  refine wp_ret (thenR ?_)
  refine retQ (resV2 rfl (rc h8 isAgg69 sizeOf69 (hS.at _) rfl rfl) (rt rfl)) ?_
  unfold inS
  rw [hin]
  exact ⟨_, rfl, by exact sbQ hS⟩
 have hin := in_yes (k := k) hop hsh (by omega)
 obtain ⟨q, hq⟩ : ∃ q : Nat, (i : Int) - (sh : Int) = (q : Int) := ⟨i - sh, by omega⟩
 rw [hq, Int.toNat_natCast] at hin
 have hql : q < (volsC c k sh).length := by omega
 obtain ⟨bl, ol, cl0, hal, -⟩ := sl_at (hvs w (hS.ok (packI (vsI c es')) (by simp))) (getD_get hql)
 subst hal
 have hvb := (volsC_bd hok k sh).2 _ (List.mem_of_getElem? (getD_get hql))
 have hlb := lvlS_bd hok.bas hvb.1 hvb.2
 refine skip <| cwQ <| seq ?_
 refine rmQ (fun w => StX [] w0 w (blk g (gcQ c ar ap af ah ai cr cp cf ch ci m) 108 :: mapI m encSp es' :: packI (vsI c es') :: L9)) (fun _ => True) [] [] mixed hS ?_; clear hS; intro w hS
 refine mQ 0 rfl (fun w hS => yMove h0) <| mQ 1 rfl (fun w hS => yNil rfl) <| mQ 2 rfl (fun w hS => fa108_0 rfl) <| mQ 3 rfl (fun w hS => fa41_0 rfl) <| mq 1 4 [] (by kernel_rfl) rfl (sbQ hS) (fun w hS => yLdBA rfl isAgg38 sizeOf38 (hS.at _) rfl rfl) <| mQ 5 rfl (fun w hS => yMove rfl) <| mQ 6 rfl (fun w hS => yMove h3) <| mQ 7 rfl (fun w hS => yMove h10) <| mQ 8 rfl (fun w hS => ySubQ rfl rfl) <| mQ 9 rfl (fun w hS => yIxQ (m := (i : Int) - (sh : Int)) rfl rfl rfl runUnderlying30 sizeOf3) ?_
 refine mq 1 10 [] (by kernel_rfl) rfl (sbQ hS) (fun w hS => yLd rfl isAgg3 (show w.cell? ⟨bl, ol + ((i : Int) - (sh : Int)).toNat * 1, none⟩ = _ by rw [hq, Int.toNat_natCast]; exact sl_cell (hvs w (hS.ok (packI (vsI c es')) (by simp))) (getD_get hql))) ?_
 refine ms (i := 11) (is := [15]) (by kernel_rfl) ⟨⟨_, rfl, ?_⟩, ⟨_, rfl, ?_⟩, trivial⟩
 ·
  refine scV hS call58 e2 (c_Level4 (hB.ext hS.ext) hok.chk hvb) fun w hS => ?_
  refine nil <| nnQ (sbQ hS) <| mw <| mQ 12 rfl (fun w hS => yMove rfl) <| mQ 13 rfl (fun w hS => yExt rfl rfl) <| mQ 14 rfl (fun w hS => yExt rfl rfl) <| m1Q 15 rfl ?_
  refine salloc hS zeroValue69 rfl fun b13 w hS => ?_
  refine nil <| nnQ (sbQ hS) <| mw <| m1Q 16 rfl ?_
  refine sS hS rfl sizeOf69 fun w hS => ?_
  refine nil <| nnQ (sbQ hS) <| mw <| mQ 17 rfl (fun w hS => yAsg rfl) <| me (by kernel_rfl) <| cwQ <| seq <| region <| sv (yLdBA rfl isAgg69 sizeOf69 (hS.at _) rfl rfl) ?_
  refine sS hS h8 sizeOf69 fun w hS => ?_
  refine vA <| nil <| cwQ <| wp_ret <| retQ (resV2 rfl (rc h8 isAgg69 sizeOf69 (hS.at _) rfl rfl) (rt rfl)) ?_
  unfold inS
  rw [hin]
  exact ⟨_, rfl, by exact sbQ hS⟩
 refine salloc hS zeroValue69 rfl fun b13 w hS => ?_
 refine nil <| nnQ (sbQ hS) <| mw <| m1Q 11 rfl ?_
 refine scV hS call58 e2 (c_Level4 (hB.ext hS.ext) hok.chk hvb) fun w hS => ?_
 refine nil <| nnQ (sbQ hS) <| mw <| mQ 12 rfl (fun w hS => yMove rfl) <| mQ 13 rfl (fun w hS => yExt rfl rfl) <| mQ 14 rfl (fun w hS => yExt rfl rfl) <| m1Q 16 rfl ?_
 refine sS hS rfl sizeOf69 fun w hS => ?_
 refine nil <| nnQ (sbQ hS) <| mw <| mQ 17 rfl (fun w hS => yAsg rfl) <| me (by kernel_rfl) <| cwQ <| seq <| region <| sv (yLdBA rfl isAgg69 sizeOf69 (hS.at _) rfl rfl) ?_
 refine sS hS h8 sizeOf69 fun w hS => ?_
 refine vA <| nil <| cwQ <| wp_ret <| retQ (resV2 rfl (rc h8 isAgg69 sizeOf69 (hS.at _) rfl rfl) (rt rfl)) ?_
 unfold inS
 rw [hin]
 exact ⟨_, rfl, by exact sbQ hS⟩
theorem c_above5 {c : Clt} {ar ap af ah ai : Option Addr} {cr cp cf ch ci : Nat} {g m : Nat} {k i : Nat} {p : Pln} {es : List ((Int × Int) × Value)} {w0 w : World} {L9 : List Bx.Item} (hT : RClt w0 (ctQ c ar ap af ah ai cr cp cf ch ci) c) (hok : ClOk c) (hS : StX [] w0 w (blk g (gcQ c ar ap af ah ai cr cp cf ch ci m) 108 :: mapI m encSp es :: packI (vsI c es) :: L9)) (hk : k < c.hist.length) (hp : PlnOk c p) (hi : i < nC c) : CE Tryz.prog 50 #[ptQ g, .int .i64 (k : Int), .agg (plnC p).toArray, .int .i64 (i : Int)] w (fun u w' => ∃ es', u = .bool (aboveC c k p i) ∧ StX [] w0 w' (blk g (gcQ c ar ap af ah ai cr cp cf ch ci m) 108 :: mapI m encSp es' :: packI (vsI c es') :: L9)) := by
 refine enter func50 rfl ntmps50 rfl ?_
 skip
 refine seq <| region ?_
 refine sbox hS rfl rfl fun b6 w hS => ?_
 refine vA <| nil <| cwQ <| seq <| region <| vM <| vM <| sv (yLdBA rfl isAgg45 sizeOf45 (hS.at _) rfl rfl) <| vM ?_
 replace hS : StX [] w0 w (blk g (gcQ c ar ap af ah ai cr cp cf ch ci m) 108 :: mapI m encSp es :: packI (vsI c es) :: blk b6 [.int .i64 p.close, .int .i64 p.opn] 45 :: L9) := hS.perm (List.perm_append_comm_assoc [_] [_, _, _] _)
 refine scall call30 (.cons rfl e3) (c_inside hT hok hS hk hp hi) ?_
 clear hS; rintro _ w ⟨es', rfl, hS⟩
 refine vM <| sv (yExt rfl rfl) <| sv (yExt rfl rfl) ?_
 refine salloc hS zeroValue69 rfl fun b9 w hS => ?_
 refine sS hS rfl sizeOf69 fun w hS => ?_
 refine vA <| nil <| cwQ <| seq <| region_draw mixed (by kernel_rfl) hS <| qv (fun w hS => yMove rfl) <| qv (fun w hS => yNot rfl) <| qv (fun w hS => yMove rfl) ?_
 refine qg rfl rfl rfl (fun g w hS => (fa69_1 rfl)) (fun v22 g22 => ?_)
 refine qg rfl rfl rfl (fun g w hS => (yLdB (g22.1 g) isAgg3 (hS.at _) rfl)) (fun v23 g23 => ?_)
 refine qg rfl rfl rfl (fun g w hS => (yMove rfl)) (fun v24 g24 => ?_)
 refine qg rfl rfl rfl (fun g w hS => (yNil (g24.1 g))) (fun v25 g25 => ?_)
 refine qg rfl rfl rfl (fun g w hS => (fa108_0 (g25.1 g))) (fun v26 g26 => ?_)
 refine qg rfl rfl rfl (fun g w hS => (fa41_5 (g26.1 g))) (fun v27 g27 => ?_)
 refine qg rfl rfl rfl (fun g w hS => (yLdB (g27.1 g) isAgg3 (hS.at _) rfl)) (fun v28 g28 => ?_)
 refine qg rfl rfl rfl (fun g w hS => (yGtr (g23.1 g) (g28.1 g))) (fun v29 g29 => ?_)
 refine qv (fun w hS => yOr rfl rfl (fun hB => (g29.1 hB))) <| qv (fun w hS => yAsg rfl) ?_
 clear hS; refine qnil (fun w hS => ?_)
 refine cwQ <| wp_ret <| retQ (res1 rfl rfl) ?_
 rw [← above_eq]
 exact ⟨_, rfl, by exact sbQ hS⟩
theorem c_fails1 {c : Clt} {ar ap af ah ai : Option Addr} {cr cp cf ch ci : Nat} {g m : Nat} {k i b3 b4 b5 : Nat} {p : Pln} {es : List ((Int × Int) × Value)} {w0 w : World} {L9 : List Bx.Item} (hT : RClt w0 (ctQ c ar ap af ah ai cr cp cf ch ci) c) (hok : ClOk c) (hS : StX [] w0 w (blk g (gcQ c ar ap af ah ai cr cp cf ch ci m) 108 :: mapI m encSp es :: packI (vsI c es) :: blk b5 [.int .i64 p.close, .int .i64 p.opn] 45 :: blk b4 [.int .i64 (k : Int)] 3 :: blk b3 [ptQ g] 89 :: L9)) {x : Value} (hk : k < c.hist.length) (hp : PlnOk c p) (hi : i < nC c) : CE Tryz.prog 49 #[.int .i64 (i : Int), x, ptQ b3, ptQ b4, ptQ b5] w (fun u w' => ∃ es', u = .bool (aboveC c k p i) ∧ StX [] w0 w' (blk g (gcQ c ar ap af ah ai cr cp cf ch ci m) 108 :: mapI m encSp es' :: packI (vsI c es') :: blk b5 [.int .i64 p.close, .int .i64 p.opn] 45 :: blk b4 [.int .i64 (k : Int)] 3 :: blk b3 [ptQ g] 89 :: L9)) := by
 refine enter func49 rfl ntmps49 rfl ?_
 skip
 refine seq <| region <| vA <| nil <| cwQ <| seq <| region <| vL rfl isAgg89 hS rfl <| vL rfl isAgg3 hS rfl <| sv (yLdBA rfl isAgg45 sizeOf45 (hS.at _) rfl rfl) <| vM ?_
 refine scall call50 (.cons rfl e3) (c_above5 hT hok hS hk hp hi) ?_
 clear hS; rintro _ w ⟨es', rfl, hS⟩
 refine vA <| nil <| cwQ <| wp_ret <| retQ (res1 rfl rfl) ?_
 exact ⟨_, rfl, hS⟩
theorem c_whereF {c : Clt} {ar ap af ah ai : Option Addr} {cr cp cf ch ci : Nat} {g m : Nat} {k b3 b4 b5 : Nat} {p : Pln} {es : List ((Int × Int) × Value)} {w0 w : World} {L9 : List Bx.Item} (hT : RClt w0 (ctQ c ar ap af ah ai cr cp cf ch ci) c) (hok : ClOk c) (hS : StX [] w0 w (blk g (gcQ c ar ap af ah ai cr cp cf ch ci m) 108 :: mapI m encSp es :: packI (vsI c es) :: blk b5 [.int .i64 p.close, .int .i64 p.opn] 45 :: blk b4 [.int .i64 (k : Int)] 3 :: blk b3 [ptQ g] 89 :: L9)) (hk : k < c.hist.length) (hp : PlnOk c p) : CE Tryz.prog 48 #[.slice ai c.river.length ci, .func (.func 49) #[] ([ptQ b3, ptQ b4, ptQ b5] : List Value).toArray] w (fun u w' => ∃ es', u = .int .i64 (failC c k p) ∧ StX [] w0 w' (blk g (gcQ c ar ap af ah ai cr cp cf ch ci m) 108 :: mapI m encSp es' :: packI (vsI c es') :: blk b5 [.int .i64 p.close, .int .i64 p.opn] 45 :: blk b4 [.int .i64 (k : Int)] 3 :: blk b3 [ptQ g] 89 :: L9)) := by
 have hd := hok.del
 have hn := hok.n
 have hf := hok.frm
 have hr := hok.riv.1
 obtain ⟨hB, hFl, hFr, hH, hR⟩ := clt_parts hT
 refine enter func48 rfl ntmps48 rfl ?_
 skip
 refine seq <| region <| vA <| nil <| cwQ <| seq <| seq <| region <| vM <| sv (yLen rfl underlying30) <| vM <| nil <| cwQ ?_
 refine block <| loop (fun f w zz => ∃ (i : Nat) (es : List ((Int × Int) × Value)), f 1 = .func (.func 49) #[] ([ptQ b3, ptQ b4, ptQ b5] : List Value).toArray ∧ f 7 = .slice ai c.river.length ci ∧ f 8 = .int .i64 (c.river.length : Int) ∧ f 9 = .int .i64 (i : Int) ∧ StX [] w0 w (blk g (gcQ c ar ap af ah ai cr cp cf ch ci m) 108 :: mapI m encSp es :: packI (vsI c es) :: blk b5 [.int .i64 p.close, .int .i64 p.opn] 45 :: blk b4 [.int .i64 (k : Int)] 3 :: blk b3 [ptQ g] 89 :: L9) ∧ (i ≤ c.river.length) ∧ (failC c k p = failK c k p (c.river.length - i) i) ∧ zz = c.river.length - i) _ ⟨_, rfl, 0, _, rfl, rfl, rfl, rfl, hS, (Nat.zero_le _), (rfl), rfl⟩ ?_
 clear hS
 rintro f w _ ⟨i, es, h1, h7, h8, h9, hS, hil, hI, rfl⟩
 refine seq <| region <| sv (yLss h9 h8) <| nil <| cwQ <| seq ?_
 refine cond rfl ?_ ?_ <;> intro c10 <;> simp only [BS, ne_eq] at c10
 ·
  have hi : i < nC c := by omega
  obtain ⟨mm, hmm⟩ : ∃ q, c.river.length - i = q + 1 := ⟨c.river.length - i - 1, by omega⟩
  obtain ⟨bx, ox, cx, hax, -, hcx, hRx, -⟩ := sl_at hR (getD_get (show i < c.river.length by omega))
  obtain ⟨rfl, hxi⟩ := hRx
  refine skip <| cwQ <| seq <| block <| seq <| region <| sv (yMove h9) <| sv (yIxQ h7 hax h9 runUnderlying30 sizeOf3) <| sv (yLd rfl isAgg3 (hcx.ext hS.ext).one) <| vA <| vA <| nil <| cwQ ?_
  refine seq <| region <| sv (yMove h1) <| vM <| vM ?_
  refine scallf rfl call49 e2 (c_fails1 hT hok hS hk hp hi) ?_
  clear hS; rintro _ w ⟨es', rfl, hS⟩
  refine nil <| cwQ ?_
  refine cond rfl (fun c17 => ?_) (fun c17 => ?_)
  ·
   have hfin : failC c k p = i := by rw [hI, hmm, fail_hit c17]
   refine seq <| region <| vM <| vA <| nil <| cwQ ?_
   refine wp_ret (blockR (thenR (thenR (blockR (thenR ?_)))))
   refine retQ (res1 rfl rfl) ?_
   rw [hfin]
   exact ⟨_, rfl, hS⟩
  refine skip <| cwQ <| region <| sv (yAddQ h9 rfl) <| vM <| nil ?_
  exact ⟨_, _, rfl, ⟨i + 1, _, h1, h7, h8, rfl, hS, (by omega), (by rw [hI, hmm, fail_miss c17, show mm = c.river.length - (i + 1) by omega]), rfl⟩, by omega⟩
 have hfin : failC c k p = -1 := by rw [hI, show c.river.length - i = 0 by omega]; rfl
 refine exit <| cwQ <| seq <| region <| vA <| nil <| cwQ <| wp_ret <| retQ (res1 rfl rfl) ?_
 rw [hfin]
 exact ⟨_, rfl, hS⟩
theorem c_fails {c : Clt} {ar ap af ah ai : Option Addr} {cr cp cf ch ci : Nat} {g m : Nat} {k : Nat} {p : Pln} {es : List ((Int × Int) × Value)} {w0 w : World} {L9 : List Bx.Item} (hT : RClt w0 (ctQ c ar ap af ah ai cr cp cf ch ci) c) (hok : ClOk c) (hS : StX [] w0 w (blk g (gcQ c ar ap af ah ai cr cp cf ch ci m) 108 :: mapI m encSp es :: packI (vsI c es) :: L9)) (hk : k < c.hist.length) (hp : PlnOk c p) : CE Tryz.prog 26 #[ptQ g, .int .i64 (k : Int), .agg (plnC p).toArray] w (fun u w' => ∃ es', u = .int .i64 (failC c k p) ∧ StX [] w0 w' (blk g (gcQ c ar ap af ah ai cr cp cf ch ci m) 108 :: mapI m encSp es' :: packI (vsI c es') :: L9)) := by
 refine enter func26 rfl ntmps26 rfl ?_
 skip
 refine seq <| region ?_
 refine sbox hS rfl rfl fun b3 w hS => ?_
 refine sbox hS rfl rfl fun b4 w hS => ?_
 refine sbox hS rfl rfl fun b5 w hS => ?_
 refine vA <| nil <| cwQ <| seq <| region <| vL rfl isAgg89 hS rfl <| sv (yNil rfl) <| sv (fa108_0 rfl) <| sv (fa41_3 rfl) <| vL rfl isAgg30 hS rfl <| sv (yFn e3) ?_
 replace hS : StX [] w0 w (blk g (gcQ c ar ap af ah ai cr cp cf ch ci m) 108 :: mapI m encSp es :: packI (vsI c es) :: blk b5 [.int .i64 p.close, .int .i64 p.opn] 45 :: blk b4 [.int .i64 (k : Int)] 3 :: blk b3 [ptQ g] 89 :: L9) := hS.perm (List.perm_append_comm_assoc [_, _, _] [_, _, _] _)
 refine scall call48 e2 (c_whereF hT hok hS hk hp) ?_
 clear hS; rintro _ w ⟨es', rfl, hS⟩
 refine vA <| nil <| cwQ <| wp_ret <| retQ (res1 rfl rfl) ?_
 exact ⟨_, rfl, by exact sbQ hS⟩
theorem c_stranger {c : Clt} {ar ap af ah ai : Option Addr} {cr cp cf ch ci : Nat} {g m : Nat} {p : Pln} {w0 : World} (hg : w0.heap[g]? = some (.cells ((gcQ c ar ap af ah ai cr cp cf ch ci m) : List Value).toArray 108 (0, 0))) (hok : ClOk c) : CV Tryz.prog 25 #[ptQ g, .agg (plnC p).toArray] w0 (.bool (strC c p)) := by
 have hd := hok.del
 have hn := hok.n
 have hf := hok.frm
 refine enQ func25 rfl ntmps25 rfl fun hS => ?_
 refine seq <| region ?_
 refine sbox hS rfl rfl fun b3 w hS => ?_
 refine vA <| nil <| cwQ <| seq ?_
 rcases str3 c p with hc3 | ⟨hc3, hc4⟩ | ⟨hc3, hc4⟩
 ·
  refine region_mix (fun w => StX [] w0 w [blk b3 [.int .i64 p.close, .int .i64 p.opn] 45]) 43 mixed hS ?_
  clear hS; intro w hS
  refine fsQ 0 rfl (fun w hS => yLdBA rfl isAgg45 sizeOf45 (hS.at b3) rfl rfl) <| awQ <| a1Q 1 rfl ?_
  refine scV hS call17 .nil c_never fun w hS => ?_
  refine nil <| kpQ <| awQ <| fsQ 2 rfl (fun w hS => neS45 rfl rfl) <| fsQ 3 rfl (fun w hS => yMove rfl) ?_
  refine fkR 4 rfl rfl (sbQ hS) (u := .bool (!(decide (p.close = -1) && decide (p.opn = -1)))) rfl (by rw [nvr_0 hc3]; simp) ?_
  refine fkR 5 rfl rfl (sbQ hS) (u := .bool (!(decide (p.close = -1) && decide (p.opn = -1)))) rfl (by rw [nvr_0 hc3]; simp) ?_
  refine fkR 6 rfl rfl (sbQ hS) (u := .bool (!(decide (p.close = -1) && decide (p.opn = -1)))) rfl (by rw [nvr_0 hc3]; simp) ?_
  refine fkR 7 rfl rfl (sbQ hS) (u := .bool (!(decide (p.close = -1) && decide (p.opn = -1)))) rfl (by rw [nvr_0 hc3]; simp) ?_
  refine fkR 8 rfl rfl (sbQ hS) (u := .bool (!(decide (p.close = -1) && decide (p.opn = -1)))) rfl (by rw [nvr_0 hc3]; simp) ?_
  refine fkR 9 rfl rfl (sbQ hS) (u := .bool (!(decide (p.close = -1) && decide (p.opn = -1)))) rfl (by rw [nvr_0 hc3]; simp) ?_
  refine fkR 10 rfl rfl (sbQ hS) (u := .bool (!(decide (p.close = -1) && decide (p.opn = -1)))) rfl (by rw [nvr_0 hc3]; simp) ?_
  refine fkR 11 rfl rfl (sbQ hS) (u := .bool (!(decide (p.close = -1) && decide (p.opn = -1)))) rfl (by rw [nvr_0 hc3]; simp) ?_
  refine fkR 12 rfl rfl (sbQ hS) (u := .bool (!(decide (p.close = -1) && decide (p.opn = -1)))) rfl (by rw [nvr_0 hc3]; simp) ?_
  refine fkR 13 rfl rfl (sbQ hS) (u := .bool (!(decide (p.close = -1) && decide (p.opn = -1)))) rfl (by rw [nvr_0 hc3]; simp) ?_
  refine fkR 14 rfl rfl (sbQ hS) (u := .bool (!(decide (p.close = -1) && decide (p.opn = -1)))) rfl (by rw [nvr_0 hc3]; simp) ?_
  refine fkR 15 rfl rfl (sbQ hS) (u := .bool (!(decide (p.close = -1) && decide (p.opn = -1)))) rfl (by rw [nvr_0 hc3]; simp) ?_
  refine fkR 16 rfl rfl (sbQ hS) (u := .bool (!(decide (p.close = -1) && decide (p.opn = -1)))) rfl (by rw [nvr_0 hc3]; simp) ?_
  refine fkR 17 rfl rfl (sbQ hS) (u := .bool (!(decide (p.close = -1) && decide (p.opn = -1)))) rfl (by rw [nvr_0 hc3]; simp) ?_
  refine fkR 18 rfl rfl (sbQ hS) (u := .bool (!(decide (p.close = -1) && decide (p.opn = -1)))) rfl (by rw [nvr_0 hc3]; simp) ?_
  refine fkR 19 rfl rfl (sbQ hS) (u := undef) rfl (by simp [undef]) <| fkR 20 rfl rfl (sbQ hS) (u := undef) rfl (by simp [undef]) <| fkR 21 rfl rfl (sbQ hS) (u := undef) rfl (by simp [undef]) <| fkR 22 rfl rfl (sbQ hS) (u := undef) rfl (by simp [undef]) <| fkR 23 rfl rfl (sbQ hS) (u := undef) rfl (by simp [undef]) <| fkR 24 rfl rfl (sbQ hS) (u := undef) rfl (by simp [undef]) <| fkR 25 rfl rfl (sbQ hS) (u := undef) rfl (by simp [undef]) <| fkR 26 rfl rfl (sbQ hS) (u := undef) rfl (by simp [undef]) <| fkR 27 rfl rfl (sbQ hS) (u := undef) rfl (by simp [undef]) <| fkR 28 rfl rfl (sbQ hS) (u := undef) rfl (by simp [undef]) <| fkR 29 rfl rfl (sbQ hS) (u := undef) rfl (by simp [undef]) <| fkR 30 rfl rfl (sbQ hS) (u := undef) rfl (by simp [undef]) <| fkR 31 rfl rfl (sbQ hS) (u := undef) rfl (by simp [undef]) ?_
  refine fkR 32 rfl rfl (sbQ hS) (u := undef) rfl (by simp [undef]) <| fkR 33 rfl rfl (sbQ hS) (u := undef) rfl (by simp [undef]) <| fkR 34 rfl rfl (sbQ hS) (u := undef) rfl (by simp [undef]) <| fkR 35 rfl rfl (sbQ hS) (u := undef) rfl (by simp [undef]) <| fkR 36 rfl rfl (sbQ hS) (u := undef) rfl (by simp [undef]) <| fkR 37 rfl rfl (sbQ hS) (u := undef) rfl (by simp [undef]) <| fkR 38 rfl rfl (sbQ hS) (u := undef) rfl (by simp [undef]) <| fkR 39 rfl rfl (sbQ hS) (u := undef) rfl (by simp [undef]) ?_
  refine fkR 40 rfl rfl (sbQ hS) (u := .bool (!(decide (p.close = -1) && decide (p.opn = -1)))) rfl (by rw [nvr_0 hc3]; simp) ?_
  refine fsQ 41 rfl (fun w hS => yAn0 rfl (nvr_0 hc3) rfl) <| fsQ 42 rfl (fun w hS => yAsg rfl) <| a_end (by kernel_rfl) <| cwQ <| wp_ret ?_
  exact retV (res1 rfl (congrArg Value.bool (by first | exact (str_a hc3).symm | exact (str_b hc3 hc4).symm | exact (str_c hc3 hc4).symm))) hS.ext
 ·
  have hll : -100 ≤ lastC c ∧ lastC c ≤ 100 := by unfold lastC; omega
  refine region_mix (fun w => StX [] w0 w [blk b3 [.int .i64 p.close, .int .i64 p.opn] 45]) 43 mixed hS ?_
  clear hS; intro w hS
  refine fsQ 0 rfl (fun w hS => yLdBA rfl isAgg45 sizeOf45 (hS.at b3) rfl rfl) <| awQ <| a1Q 1 rfl ?_
  refine scV hS call17 .nil c_never fun w hS => ?_
  refine nil <| kpQ <| awQ <| fsQ 2 rfl (fun w hS => neS45 rfl rfl) <| fsQ 3 rfl (fun w hS => yMove rfl) <| fgR 4 rfl rfl (sbQ hS) (congrArg Value.bool (nvr_1 hc3)) (fun w hS => fa45_0 rfl) <| fgR 5 rfl rfl (sbQ hS) (congrArg Value.bool (nvr_1 hc3)) (fun w hS => yLdB rfl isAgg3 (hS.at b3) rfl) <| fgR 6 rfl rfl (sbQ hS) (congrArg Value.bool (nvr_1 hc3)) (fun w hS => yMove rfl) <| fgR 7 rfl rfl (sbQ hS) (congrArg Value.bool (nvr_1 hc3)) (fun w hS => yNil rfl) <| fgR 8 rfl rfl (sbQ hS) (congrArg Value.bool (nvr_1 hc3)) (fun w hS => fa108_1 rfl) <| fgR 9 rfl rfl (sbQ hS) (congrArg Value.bool (nvr_1 hc3)) (fun w hS => yLdB rfl isAgg3 (hS.ext.get hg) rfl) <| fgR 10 rfl rfl (sbQ hS) (congrArg Value.bool (nvr_1 hc3)) (fun w hS => yMove rfl) <| fgR 11 rfl rfl (sbQ hS) (congrArg Value.bool (nvr_1 hc3)) (fun w hS => yNil rfl) ?_
  refine fgR 12 rfl rfl (sbQ hS) (congrArg Value.bool (nvr_1 hc3)) (fun w hS => fa108_1 rfl) <| fgR 13 rfl rfl (sbQ hS) (congrArg Value.bool (nvr_1 hc3)) (fun w hS => yLdB rfl isAgg3 (hS.ext.get hg) rfl) <| fgR 14 rfl rfl (sbQ hS) (congrArg Value.bool (nvr_1 hc3)) (fun w hS => yMove rfl) <| awQ <| a1Q 15 rfl <| ungo rfl rfl (congrArg Value.bool (nvr_1 hc3)) ?_
  refine scV hS call45 e1 (c_last (hS.ext.get hg) hok) fun w hS => ?_
  refine nil <| kpQ <| awQ <| fgR 16 rfl rfl (sbQ hS) (congrArg Value.bool (nvr_1 hc3)) (fun w hS => yAddQ rfl rfl) <| awQ <| a1Q 17 rfl <| ungo rfl rfl (congrArg Value.bool (nvr_1 hc3)) ?_
  refine scV hS call29 e3 c_lout fun w hS => ?_
  refine nil <| kpQ <| awQ <| fgR 18 rfl rfl (sbQ hS) (congrArg Value.bool (nvr_1 hc3)) (fun w hS => yMove rfl) ?_
  refine fkR 19 rfl rfl (sbQ hS) (u := .bool (outB p.close (frC c) (frC c + lastC c))) rfl (by rw [hc4]; simp) ?_
  refine fkR 20 rfl rfl (sbQ hS) (u := .bool (outB p.close (frC c) (frC c + lastC c))) rfl (by rw [hc4]; simp) ?_
  refine fkR 21 rfl rfl (sbQ hS) (u := .bool (outB p.close (frC c) (frC c + lastC c))) rfl (by rw [hc4]; simp) ?_
  refine fkR 22 rfl rfl (sbQ hS) (u := .bool (outB p.close (frC c) (frC c + lastC c))) rfl (by rw [hc4]; simp) ?_
  refine fkR 23 rfl rfl (sbQ hS) (u := .bool (outB p.close (frC c) (frC c + lastC c))) rfl (by rw [hc4]; simp) ?_
  refine fkR 24 rfl rfl (sbQ hS) (u := .bool (outB p.close (frC c) (frC c + lastC c))) rfl (by rw [hc4]; simp) ?_
  refine fkR 25 rfl rfl (sbQ hS) (u := .bool (outB p.close (frC c) (frC c + lastC c))) rfl (by rw [hc4]; simp) ?_
  refine fkR 26 rfl rfl (sbQ hS) (u := .bool (outB p.close (frC c) (frC c + lastC c))) rfl (by rw [hc4]; simp) ?_
  refine fkR 27 rfl rfl (sbQ hS) (u := .bool (outB p.close (frC c) (frC c + lastC c))) rfl (by rw [hc4]; simp) ?_
  refine fkR 28 rfl rfl (sbQ hS) (u := .bool (outB p.close (frC c) (frC c + lastC c))) rfl (by rw [hc4]; simp) ?_
  refine fkR 29 rfl rfl (sbQ hS) (u := .bool (outB p.close (frC c) (frC c + lastC c))) rfl (by rw [hc4]; simp) ?_
  refine fkR 30 rfl rfl (sbQ hS) (u := .bool (outB p.close (frC c) (frC c + lastC c))) rfl (by rw [hc4]; simp) ?_
  refine fkR 31 rfl rfl (sbQ hS) (u := .bool (outB p.close (frC c) (frC c + lastC c))) rfl (by rw [hc4]; simp) ?_
  refine fkR 32 rfl rfl (sbQ hS) (u := .bool (outB p.close (frC c) (frC c + lastC c))) rfl (by rw [hc4]; simp) ?_
  refine fkR 33 rfl rfl (sbQ hS) (u := .bool (outB p.close (frC c) (frC c + lastC c))) rfl (by rw [hc4]; simp) ?_
  refine fkR 34 rfl rfl (sbQ hS) (u := .bool (outB p.close (frC c) (frC c + lastC c))) rfl (by rw [hc4]; simp) ?_
  refine fkR 35 rfl rfl (sbQ hS) (u := .bool (outB p.close (frC c) (frC c + lastC c))) rfl (by rw [hc4]; simp) ?_
  refine fkR 36 rfl rfl (sbQ hS) (u := .bool (outB p.close (frC c) (frC c + lastC c))) rfl (by rw [hc4]; simp) ?_
  refine fkR 37 rfl rfl (sbQ hS) (u := .bool (outB p.close (frC c) (frC c + lastC c))) rfl (by rw [hc4]; simp) ?_
  refine fkR 38 rfl rfl (sbQ hS) (u := .bool (outB p.close (frC c) (frC c + lastC c))) rfl (by rw [hc4]; simp) ?_
  refine fkR 39 rfl rfl (sbQ hS) (u := .bool (outB p.close (frC c) (frC c + lastC c))) rfl (by rw [hc4]; simp) ?_
  refine fgR 40 rfl rfl (sbQ hS) (congrArg Value.bool (nvr_1 hc3)) (fun w hS => yOr1 rfl hc4 rfl) <| fsQ 41 rfl (fun w hS => yAn1 rfl (nvr_1 hc3) rfl rfl) <| fsQ 42 rfl (fun w hS => yAsg rfl) <| a_end (by kernel_rfl) <| cwQ <| wp_ret ?_
  exact retV (res1 rfl (congrArg Value.bool (by first | exact (str_a hc3).symm | exact (str_b hc3 hc4).symm | exact (str_c hc3 hc4).symm))) hS.ext
 have hll : -100 ≤ lastC c ∧ lastC c ≤ 100 := by unfold lastC; omega
 have hcb := outB_false.1 hc4
 refine region_mix (fun w => StX [] w0 w [blk b3 [.int .i64 p.close, .int .i64 p.opn] 45]) 43 mixed hS ?_
 clear hS; intro w hS
 refine fsQ 0 rfl (fun w hS => yLdBA rfl isAgg45 sizeOf45 (hS.at b3) rfl rfl) <| awQ <| a1Q 1 rfl ?_
 refine scV hS call17 .nil c_never fun w hS => ?_
 refine nil <| kpQ <| awQ <| fsQ 2 rfl (fun w hS => neS45 rfl rfl) <| fsQ 3 rfl (fun w hS => yMove rfl) <| fgR 4 rfl rfl (sbQ hS) (congrArg Value.bool (nvr_1 hc3)) (fun w hS => fa45_0 rfl) <| fgR 5 rfl rfl (sbQ hS) (congrArg Value.bool (nvr_1 hc3)) (fun w hS => yLdB rfl isAgg3 (hS.at b3) rfl) <| fgR 6 rfl rfl (sbQ hS) (congrArg Value.bool (nvr_1 hc3)) (fun w hS => yMove rfl) <| fgR 7 rfl rfl (sbQ hS) (congrArg Value.bool (nvr_1 hc3)) (fun w hS => yNil rfl) <| fgR 8 rfl rfl (sbQ hS) (congrArg Value.bool (nvr_1 hc3)) (fun w hS => fa108_1 rfl) <| fgR 9 rfl rfl (sbQ hS) (congrArg Value.bool (nvr_1 hc3)) (fun w hS => yLdB rfl isAgg3 (hS.ext.get hg) rfl) <| fgR 10 rfl rfl (sbQ hS) (congrArg Value.bool (nvr_1 hc3)) (fun w hS => yMove rfl) <| fgR 11 rfl rfl (sbQ hS) (congrArg Value.bool (nvr_1 hc3)) (fun w hS => yNil rfl) ?_
 refine fgR 12 rfl rfl (sbQ hS) (congrArg Value.bool (nvr_1 hc3)) (fun w hS => fa108_1 rfl) <| fgR 13 rfl rfl (sbQ hS) (congrArg Value.bool (nvr_1 hc3)) (fun w hS => yLdB rfl isAgg3 (hS.ext.get hg) rfl) <| fgR 14 rfl rfl (sbQ hS) (congrArg Value.bool (nvr_1 hc3)) (fun w hS => yMove rfl) <| awQ <| a1Q 15 rfl <| ungo rfl rfl (congrArg Value.bool (nvr_1 hc3)) ?_
 refine scV hS call45 e1 (c_last (hS.ext.get hg) hok) fun w hS => ?_
 refine nil <| kpQ <| awQ <| fgR 16 rfl rfl (sbQ hS) (congrArg Value.bool (nvr_1 hc3)) (fun w hS => yAddQ rfl rfl) <| awQ <| a1Q 17 rfl <| ungo rfl rfl (congrArg Value.bool (nvr_1 hc3)) ?_
 refine scV hS call29 e3 c_lout fun w hS => ?_
 refine nil <| kpQ <| awQ <| fgR 18 rfl rfl (sbQ hS) (congrArg Value.bool (nvr_1 hc3)) (fun w hS => yMove rfl) <| fgR 19 rfl rfl (sbQ hS) (congrArg Value.bool hc4) (fun w hS => fa45_1 rfl) <| fgR 20 rfl rfl (sbQ hS) (congrArg Value.bool hc4) (fun w hS => yLdB rfl isAgg3 (hS.at b3) rfl) <| fgR 21 rfl rfl (sbQ hS) (congrArg Value.bool hc4) (fun w hS => fa45_0 rfl) <| fgR 22 rfl rfl (sbQ hS) (congrArg Value.bool hc4) (fun w hS => yLdB rfl isAgg3 (hS.at b3) rfl) <| fgR 23 rfl rfl (sbQ hS) (congrArg Value.bool hc4) (fun w hS => yMove rfl) <| fgR 24 rfl rfl (sbQ hS) (congrArg Value.bool hc4) (fun w hS => yNil rfl) <| fgR 25 rfl rfl (sbQ hS) (congrArg Value.bool hc4) (fun w hS => fa108_0 rfl) <| fgR 26 rfl rfl (sbQ hS) (congrArg Value.bool hc4) (fun w hS => fa41_6 rfl) <| fgR 27 rfl rfl (sbQ hS) (congrArg Value.bool hc4) (fun w hS => yLdB rfl isAgg3 (hS.ext.get hg) rfl) ?_
 refine fgR 28 rfl rfl (sbQ hS) (congrArg Value.bool hc4) (fun w hS => yAddQ rfl rfl) <| fgR 29 rfl rfl (sbQ hS) (congrArg Value.bool hc4) (fun w hS => yAddQ rfl rfl) <| fgR 30 rfl rfl (sbQ hS) (congrArg Value.bool hc4) (fun w hS => yMove rfl) <| fgR 31 rfl rfl (sbQ hS) (congrArg Value.bool hc4) (fun w hS => yNil rfl) <| fgR 32 rfl rfl (sbQ hS) (congrArg Value.bool hc4) (fun w hS => fa108_1 rfl) <| fgR 33 rfl rfl (sbQ hS) (congrArg Value.bool hc4) (fun w hS => yLdB rfl isAgg3 (hS.ext.get hg) rfl) <| fgR 34 rfl rfl (sbQ hS) (congrArg Value.bool hc4) (fun w hS => yMove rfl) <| fgR 35 rfl rfl (sbQ hS) (congrArg Value.bool hc4) (fun w hS => yNil rfl) <| fgR 36 rfl rfl (sbQ hS) (congrArg Value.bool hc4) (fun w hS => fa108_2 rfl) <| fgR 37 rfl rfl (sbQ hS) (congrArg Value.bool hc4) (fun w hS => yLdB rfl isAgg3 (hS.ext.get hg) rfl) <| fgR 38 rfl rfl (sbQ hS) (congrArg Value.bool hc4) (fun w hS => yAddQ rfl rfl) ?_
 refine awQ <| a1Q 39 rfl <| ungo rfl rfl (congrArg Value.bool hc4) ?_
 refine scV hS call29 e3 c_lout fun w hS => ?_
 refine nil <| kpQ <| awQ <| fgR 40 rfl rfl (sbQ hS) (congrArg Value.bool (nvr_1 hc3)) (fun w hS => yOr0 rfl hc4 rfl rfl) <| fsQ 41 rfl (fun w hS => yAn1 rfl (nvr_1 hc3) rfl rfl) <| fsQ 42 rfl (fun w hS => yAsg rfl) <| a_end (by kernel_rfl) <| cwQ <| wp_ret ?_
 exact retV (res1 rfl (congrArg Value.bool (by first | exact (str_a hc3).symm | exact (str_b hc3 hc4).symm | exact (str_c hc3 hc4).symm))) hS.ext
end Go.Proofs.YtchbdfcbogjhcaaGreatDoor
namespace Bx
open Go Go.RowKit
def whF (p : Nat → Int → Bool) (l : List Int) : Nat → Nat → Int
 | 0, _ => -1
 | m + 1, i => if p i (l.getD i 0) = true then i else whF p l m (i + 1)
theorem wh_hit {p : Nat → Int → Bool} {l : List Int} {m i : Nat} (h : p i (l.getD i 0) = true) : whF p l (m + 1) i = i := by rw [whF, if_pos h]
theorem wh_miss {p : Nat → Int → Bool} {l : List Int} {m i : Nat} (h : p i (l.getD i 0) = false) : whF p l (m + 1) i = whF p l m (i + 1) := by rw [whF, if_neg (by rw [h]; decide)]
theorem wh_any {p : Nat → Int → Bool} {l : List Int} : ∀ (m i : Nat), 0 ≤ whF p l m i ↔ ∃ j, i ≤ j ∧ j < i + m ∧ p j (l.getD j 0) = true
  | 0, i => ⟨fun h => absurd h (by unfold whF; decide), fun ⟨j, h1, h2, _⟩ => by omega⟩
  | m + 1, i => by
    cases hp : p i (l.getD i 0) with
    | true => rw [wh_hit hp]; exact ⟨fun _ => ⟨i, Nat.le_refl _, by omega, hp⟩, fun _ => by omega⟩
    | false =>
      rw [wh_miss hp, wh_any m (i + 1)]
      refine ⟨fun ⟨j, h1, h2, h3⟩ => ⟨j, by omega, by omega, h3⟩, fun ⟨j, h1, h2, h3⟩ => ?_⟩
      by_cases e : j = i
      · rw [e, hp] at h3; cases h3
      · exact ⟨j, by omega, by omega, h3⟩
theorem wh_first {lim : Int} : ∀ (l : List Int) (pre : List Int) (i : Nat), pre.length = i → whF (fun _ v => decide (lim < v)) (pre ++ l) l.length i = firstHi lim l i
  | [], pre, i, h => rfl
  | v :: l, pre, i, h => by
    have hg : (pre ++ v :: l).getD i 0 = v := by simp [List.getD, ← h]
    rw [List.length_cons, whF, hg, firstHi]
    by_cases hv : lim < v
    · rw [if_pos (decide_eq_true hv), if_pos hv]
    · rw [if_neg (by rw [decide_eq_false hv]; decide), if_neg hv]
      have := wh_first (lim := lim) l (pre ++ [v]) (i + 1) (by simp [h])
      rwa [List.append_assoc] at this
section
variable {c : Clt}
theorem hist_e2 {i : Nat} (h : (hsS c i).frm ≠ frC c ∨ ((hsV c i).length : Int) ≠ (nC c : Int)) : histE c i = 2 := by unfold histE; rw [if_pos (by omega)]
theorem hist_e7 {i : Nat} (h : (hsS c i).frm = frC c ∧ ((hsV c i).length : Int) = (nC c : Int)) (h2 : (outB (hsS c i).frm 0 (200000 - nC c + 1) || (hsV c i).any fun v => outB v (-20000) 20000) = true) : histE c i = 7 := by unfold histE; rw [if_neg (by omega), if_pos h2]
theorem hist_e0 {i : Nat} (h : (hsS c i).frm = frC c ∧ ((hsV c i).length : Int) = (nC c : Int)) (h2 : (outB (hsS c i).frm 0 (200000 - nC c + 1) || (hsV c i).any fun v => outB v (-20000) 20000) = false) : histE c i = 0 := by unfold histE; rw [if_neg (by omega), if_neg (by rw [h2]; decide)]
variable (h1 : ¬ (checkB c.bas).2.2 ≠ 0)
theorem chk_1 (h : (checkB c.bas).2.2 ≠ 0) : chkE c = (checkB c.bas).2.2 := by unfold chkE; rw [if_pos h]
include h1
theorem chk_2 (h : (outB c.hist.length 1 8 || outB (nC c) 1 60) = true) : chkE c = 3 := by unfold chkE; rw [if_neg h1, if_pos h]
variable (h2 : (outB c.hist.length 1 8 || outB (nC c) 1 60) = false)
include h2
theorem chk_3 {k m : Nat} (hI : firstN (histE c) c.hist.length 0 = firstN (histE c) (m + 1) k) (h : histE c k ≠ 0) : chkE c = histE c k := by
 unfold chkE
 rw [if_neg h1, if_neg (by rw [h2]; decide), hI, firstN_hit h, if_pos h]
variable (h3 : firstN (histE c) c.hist.length 0 = firstN (histE c) 0 c.hist.length)
include h3
theorem chk_h0 : ¬ (firstN (histE c) c.hist.length 0).2 ≠ 0 := by rw [h3]; exact fun k => k rfl
theorem chk_4 (h : (c.river.length : Int) ≠ (nC c : Int)) : chkE c = 2 := by
 unfold chkE
 rw [if_neg h1, if_neg (by rw [h2]; decide), if_neg (chk_h0 h1 h2 h3), if_pos (by omega)]
variable (h4 : (c.river.length : Int) = (nC c : Int))
include h4
theorem chk_5 (h : (c.river.any fun v => outB v 0 10000000) = true) : chkE c = 7 := by
 unfold chkE
 rw [if_neg h1, if_neg (by rw [h2]; decide), if_neg (chk_h0 h1 h2 h3), if_neg (by omega), if_pos h]
variable (h5 : (c.river.any fun v => outB v 0 10000000) = false)
include h5
theorem chk_6 (h : (c.filled.length : Int) ≠ (c.bas.pols.length : Int)) : chkE c = 2 := by
 unfold chkE
 rw [if_neg h1, if_neg (by rw [h2]; decide), if_neg (chk_h0 h1 h2 h3), if_neg (by omega), if_neg (by rw [h5]; decide), if_pos (by omega)]
variable (h6 : (c.filled.length : Int) = (c.bas.pols.length : Int))
include h6
theorem chk_7 (h : (outB c.out 0 10000000 || outB c.limit (lvB c.bas 0) 20000 || outB c.delay 0 30) = true) : chkE c = 7 := by
 unfold chkE
 rw [if_neg h1, if_neg (by rw [h2]; decide), if_neg (chk_h0 h1 h2 h3), if_neg (by omega), if_neg (by rw [h5]; decide), if_neg (by omega), if_pos h]
variable (h7 : (outB c.out 0 10000000 || outB c.limit (lvB c.bas 0) 20000 || outB c.delay 0 30) = false)
include h7
theorem chk_8 {x : Int} (hx : x = whF (fun i v => outB v 0 (plB c.bas i).room) c.filled c.filled.length 0) : chkE c = if 0 ≤ x then 7 else 0 := by
 unfold chkE
 rw [if_neg h1, if_neg (by rw [h2]; decide), if_neg (chk_h0 h1 h2 h3), if_neg (by omega), if_neg (by rw [h5]; decide), if_neg (by omega), if_neg (by rw [h7]; decide)]
 have : ((List.range c.filled.length).any (filE c)) = true ↔ 0 ≤ x := by
  rw [hx, wh_any, List.any_eq_true]
  exact ⟨fun ⟨j, hj, hj2⟩ => ⟨j, Nat.zero_le _, by have := List.mem_range.1 hj; omega, hj2⟩, fun ⟨j, _, hj, hj2⟩ => ⟨j, List.mem_range.2 (by omega), hj2⟩⟩
 by_cases hc : 0 ≤ x
 ·
  rw [if_pos (this.2 hc), if_pos hc]
 ·
  rw [if_neg (fun k => hc (this.1 k)), if_neg hc]
end
theorem ser_if {w : World} {a : Option Addr} {n ca : Nat} {l : List Ser} (h : Sl w 2 RSer (.slice a n ca) l) : ∃ b o av cv, 0 < l.length → a = some ⟨b, o, none⟩ ∧ Cells w b (o + 0 * 2) [.int .i64 (l.getD 0 ⟨0, []⟩).frm, .slice av (l.getD 0 ⟨0, []⟩).vals.length cv] ∧ 0 < n := by
 by_cases hl : 0 < l.length
 ·
  obtain ⟨b, o, cs, h1, -, h2, hR, h3⟩ := sl_at h (i := 0) (x := l.getD 0 ⟨0, []⟩) (by simp [List.getD, hl])
  obtain ⟨v, rfl, -, hv⟩ := hR
  obtain ⟨av, cv, rfl, -⟩ := hv
  exact ⟨b, o, av, cv, fun _ => ⟨h1, h2, h3⟩⟩
 ·
  exact ⟨0, 0, none, 0, fun k => absurd k hl⟩
theorem lim3 (c : Clt) : outB c.out 0 10000000 = true ∨ (outB c.out 0 10000000 = false ∧ outB c.limit (lvB c.bas 0) 20000 = true) ∨ (outB c.out 0 10000000 = false ∧ outB c.limit (lvB c.bas 0) 20000 = false) := by
 cases outB c.out 0 10000000 <;> cases outB c.limit (lvB c.bas 0) 20000 <;> simp
end Bx
namespace Go.Proofs.YtchbdfcbogjhcaaGreatDoor
open Go Bx Go.Proofs.Tryz
theorem c_chk1 {a : Int} {w0 : World} : CV Tryz.prog 73 #[.int .i64 a] w0 (.bool (outB a (-20000) 20000)) := by
 refine enQ func73 rfl ntmps73 rfl fun hS => ?_
 refine seq <| region <| vA <| nil <| cwQ <| seq <| region <| vM ?_
 refine scV hS call29 e3 c_lout fun w hS => ?_
 refine vA <| nil <| cwQ <| wp_ret ?_
 exact rvQ hS
theorem c_chk2 {a : Int} {w0 : World} : CV Tryz.prog 74 #[.int .i64 a] w0 (.bool (outB a 0 10000000)) := by
 refine enQ func74 rfl ntmps74 rfl fun hS => ?_
 refine seq <| region <| vA <| nil <| cwQ <| seq <| region <| vM ?_
 refine scV hS call29 e3 c_lout fun w hS => ?_
 refine vA <| nil <| cwQ <| wp_ret ?_
 exact rvQ hS
theorem c_chk3 {c : Clt} {ar ap af ah ai : Option Addr} {cr cp cf ch ci : Nat} {i b1 : Nat} {x : Int} {w0 : World} (hb1 : w0.heap[b1]? = some (.cells ((ctQ c ar ap af ah ai cr cp cf ch ci) : List Value).toArray 41 (0, 0))) (hbp : Sl w0 4 RPol (.slice ap c.bas.pols.length cp) c.bas.pols) (hi : i < c.bas.pols.length) : CV Tryz.prog 75 #[.int .i64 (i : Int), .int .i64 x, ptQ b1] w0 (.bool (outB x 0 (plB c.bas i).room)) := by
 obtain ⟨bq, oq, cq, haq, -, hcq, hRq, -⟩ := sl_at hbp (plB_get hi)
 obtain ⟨rfl, -⟩ := hRq
 refine enQ func75 rfl ntmps75 rfl fun hS => ?_
 refine seq <| region <| vA <| nil <| cwQ <| seq <| region <| vM <| sv (fa41_0 rfl) <| sv (fa38_4 rfl) <| sv (yLdB rfl isAgg36 (hS.ext.get hb1) rfl) <| vM <| sv (yIxQ rfl haq rfl runUnderlying36 sizeOf173) ?_
 refine sv (fa173_3 rfl) <| sv (yLd rfl isAgg3 ((hcq.ext hS.ext).at (j := 3) rfl)) ?_
 refine scV hS call29 e3 c_lout fun w hS => ?_
 refine vA <| nil <| cwQ <| wp_ret ?_
 exact rvQ hS
theorem c_whereQ {l : List Int} {p : Nat → Int → Bool} {v : Value} {g : Nat} {cl : List Value} {w0 : World} (hsl : Sl w0 1 RInt v l) (hcall : ∀ ys w, (callFunc g ys).run Tryz.prog w = .ok (.enter g ys) w) (hp : ∀ (i : Nat) w, i < l.length → Ext w0 w → CV Tryz.prog g (.int .i64 (i : Int) :: .int .i64 (l.getD i 0) :: cl).toArray w (.bool (p i (l.getD i 0)))) : CV Tryz.prog 48 #[v, .func (.func g) #[] cl.toArray] w0 (.int .i64 (whF p l l.length 0)) := by
 obtain ⟨a, ca, rfl, hcap, hmx, -⟩ := id hsl
 refine enQ func48 rfl ntmps48 rfl fun hS => ?_
 refine seq <| region <| vA <| nil <| cwQ <| seq <| seq <| region <| vM <| sv (yLen rfl underlying30) <| vM <| nil <| cwQ ?_
 refine block <| loop (fun f w zz => ∃ (i : Nat), f 1 = .func (.func g) #[] cl.toArray ∧ f 7 = .slice a l.length ca ∧ f 8 = .int .i64 (l.length : Int) ∧ f 9 = .int .i64 (i : Int) ∧ StX [] w0 w [] ∧ (i ≤ l.length) ∧ (whF p l l.length 0 = whF p l (l.length - i) i) ∧ zz = l.length - i) _ ⟨_, rfl, 0, rfl, rfl, rfl, rfl, hS, (Nat.zero_le _), (rfl), rfl⟩ ?_
 clear hS
 rintro f w _ ⟨i, h1, h7, h8, h9, hS, hil, hI, rfl⟩
 refine seq <| region <| sv (yLss h9 h8) <| nil <| cwQ <| seq ?_
 refine cond rfl ?_ ?_ <;> intro c10 <;> simp only [BS, ne_eq] at c10
 ·
  have hix : i < l.length := by omega
  obtain ⟨mm, hmm⟩ : ∃ q, l.length - i = q + 1 := ⟨l.length - i - 1, by omega⟩
  obtain ⟨bx, ox, cx, hax, -, hcx, hRx, -⟩ := sl_at hsl (getD_get hix)
  obtain ⟨rfl, hxi⟩ := hRx
  refine skip <| cwQ <| seq <| block <| seq <| region <| sv (yMove h9) <| sv (yIxQ h7 hax h9 runUnderlying30 sizeOf3) <| sv (yLd rfl isAgg3 (hcx.ext hS.ext).one) <| vA <| vA <| nil <| cwQ ?_
  refine seq <| region <| sv (yMove h1) <| vM <| vM ?_
  refine scallf rfl hcall e2 (hp i _ hix hS.ext) ?_
  rintro _ w ⟨rfl, hE⟩; replace hS := hS.step hE; clear hE
  refine nil <| cwQ ?_
  refine cond rfl (fun c17 => ?_) (fun c17 => ?_)
  ·
   have hfin : whF p l l.length 0 = i := by rw [hI, hmm, wh_hit c17]
   refine seq <| region <| vM <| vA <| nil <| cwQ ?_
   refine wp_ret (blockR (thenR (thenR (blockR (thenR ?_)))))
   exact retV (res1 rfl (congrArg (Value.int .i64) hfin.symm)) hS.ext
  refine skip <| cwQ <| region <| sv (yAddQ h9 rfl) <| vM <| nil ?_
  exact ⟨_, _, rfl, ⟨i + 1, h1, h7, h8, rfl, hS, (by omega), (by rw [hI, hmm, wh_miss c17, show mm = l.length - (i + 1) by omega]), rfl⟩, by omega⟩
 have hfin : whF p l l.length 0 = -1 := by rw [hI, show l.length - i = 0 by omega]; rfl
 refine exit <| cwQ <| seq <| region <| vA <| nil <| cwQ <| wp_ret ?_
 exact retV (res1 rfl (congrArg (Value.int .i64) hfin.symm)) hS.ext
end Go.Proofs.YtchbdfcbogjhcaaGreatDoor
