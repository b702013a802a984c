/- Merged texts, part 6. -/
import Derived.Test.YtpgmehignepidaaQ5
set_option linter.all false
/- part P27 -/
namespace Bx
open Go Go.RowKit
def fitB (g : Gauge) (q fr : Int) (n : Nat) (r : Reading) : Bool := decide (((datI g.datums r.tick : Nat) : Int) = q) && !(outB (W64 (r.tick - fr)) 0 ((n : Int) - 1))
def fitC (g : Gauge) (q fr : Int) (ks : List Span) (s : Span) (r : Reading) : Span :=
  if fitB g q fr ks.length r = true then cutS s (around r.value g.err (ks.getD (W64 (r.tick - fr)).toNat ⟨0, 0⟩)) else s
def fitS (g : Gauge) (q fr : Int) (ks : List Span) (s : Span) (rs : List Reading) : Span := rs.foldl (fitC g q fr ks) s
def noneS (s : Span) : Bool := outB s.hi (-20000) 20000 || outB s.lo (-20000) s.hi
def fitE (g : Gauge) (q fr : Int) (ks : List Span) : Int :=
  if (checkG g).2.2 ≠ 0 then (checkG g).2.2 else if outB q 0 ((g.datums.length : Int) - 1) = true then 4 else if someE fr ks.length ≠ 0 then someE fr ks.length else if ks.any noneS = true then 2 else 0
def fitI (g : Gauge) (q fr : Int) (ks : List Span) : Span := fitS g q fr ks (g.datums.getD q.toNat ⟨0, ⟨0, 0⟩⟩).shift g.readings
def fitF (g : Gauge) (q fr : Int) (ks : List Span) : Span × Int :=
  if fitE g q fr ks ≠ 0 then (⟨0, 0⟩, fitE g q fr ks) else if (fitI g q fr ks).hi < (fitI g q fr ks).lo then (⟨0, 0⟩, 9) else (fitI g q fr ks, 0)
theorem fitF_e {g : Gauge} {q fr : Int} {ks : List Span} {e : Int} (h : fitE g q fr ks = e) (h0 : e ≠ 0) : fitF g q fr ks = (⟨0, 0⟩, e) := by unfold fitF; rw [h, if_pos h0]
theorem fitE_1 {g : Gauge} {q fr : Int} {ks : List Span} (h : (checkG g).2.2 ≠ 0) : fitE g q fr ks = (checkG g).2.2 := by unfold fitE; rw [if_pos h]
theorem fitE_2 {g : Gauge} {q fr : Int} {ks : List Span} (h : (checkG g).2.2 = 0) (h2 : outB q 0 ((g.datums.length : Int) - 1) = true) : fitE g q fr ks = 4 := by unfold fitE; rw [if_neg (fun k => k h), if_pos h2]
theorem fitE_3 {g : Gauge} {q fr : Int} {ks : List Span} (h : (checkG g).2.2 = 0) (h2 : outB q 0 ((g.datums.length : Int) - 1) = false) (h3 : someE fr ks.length ≠ 0) : fitE g q fr ks = someE fr ks.length := by
  unfold fitE; rw [if_neg (fun k => k h), if_neg (by rw [h2]; decide), if_pos h3]
theorem fitE_4 {g : Gauge} {q fr : Int} {ks : List Span} (h : (checkG g).2.2 = 0) (h2 : outB q 0 ((g.datums.length : Int) - 1) = false) (h3 : someE fr ks.length = 0) : fitE g q fr ks = if ks.any noneS = true then 2 else 0 := by
  unfold fitE; rw [if_neg (fun k => k h), if_neg (by rw [h2]; decide), if_neg (fun k => k h3)]
theorem fitS_snoc (g : Gauge) (q fr : Int) (ks : List Span) (s : Span) (l : List Reading) (r : Reading) : fitS g q fr ks s (l ++ [r]) = fitC g q fr ks (fitS g q fr ks s l) r := by simp [fitS]
theorem noneS_iff {s : Span} : noneS s = false ↔ -20000 ≤ s.lo ∧ s.lo ≤ s.hi ∧ s.hi ≤ 20000 := by
  simp only [noneS, Bool.or_eq_false_iff, outB_false]; omega
theorem fitS_has {g : Gauge} {q fr n : Int} {ks : List Span} : ∀ (rs : List Reading) (s : Span), (∀ r ∈ rs, fitB g q fr ks.length r = true → (around r.value g.err (ks.getD (W64 (r.tick - fr)).toNat ⟨0, 0⟩)).lo ≤ n ∧ n ≤ (around r.value g.err (ks.getD (W64 (r.tick - fr)).toNat ⟨0, 0⟩)).hi) →
    s.lo ≤ n ∧ n ≤ s.hi → (fitS g q fr ks s rs).lo ≤ n ∧ n ≤ (fitS g q fr ks s rs).hi
  | [], s, _, h => h
  | r :: rs, s, ha, h => by
    refine fitS_has rs (fitC g q fr ks s r) (fun x hx => ha x (List.mem_cons_of_mem _ hx)) ?_
    unfold fitC
    by_cases hb : fitB g q fr ks.length r = true
    · rw [if_pos hb]
      have := ha r (List.mem_cons_self ..) hb
      exact ⟨by show max s.lo _ ≤ n; omega, by show n ≤ min s.hi _; omega⟩
    · rw [if_neg hb]; exact h
theorem fitS_within {g : Gauge} {q fr : Int} {ks ms : List Span} (hl : ks.length = ms.length) (hk : ∀ i, i < ks.length → (ms.getD i ⟨0, 0⟩).lo ≤ (ks.getD i ⟨0, 0⟩).lo ∧ (ks.getD i ⟨0, 0⟩).hi ≤ (ms.getD i ⟨0, 0⟩).hi) :
    ∀ (rs : List Reading) (s u : Span), Within s u → Within (fitS g q fr ks s rs) (fitS g q fr ms u rs)
  | [], s, u, h => h
  | r :: rs, s, u, h => by
    refine fitS_within hl hk rs _ _ ?_
    unfold fitC
    rw [← hl]
    by_cases hb : fitB g q fr ks.length r = true
    · rw [if_pos hb, if_pos hb]
      simp only [fitB, Bool.and_eq_true, Bool.not_eq_true', outB_false] at hb
      have := hk (W64 (r.tick - fr)).toNat (by omega)
      obtain ⟨h1, h2⟩ := h
      refine ⟨?_, ?_⟩
      · show max u.lo (r.value - g.err - _) ≤ max s.lo (r.value - g.err - _)
        omega
      · show min s.hi (r.value + g.err - _) ≤ min u.hi (r.value + g.err - _)
        omega
    · rw [if_neg hb, if_neg hb]; exact h
theorem fitS_less {g : Gauge} {q fr : Int} {ks : List Span} : ∀ (rs : List Reading) (s : Span), Within (fitS g q fr ks s rs) s
  | [], s => ⟨Int.le_refl _, Int.le_refl _⟩
  | r :: rs, s => by
    have h := fitS_less (g := g) (q := q) (fr := fr) (ks := ks) rs (fitC g q fr ks s r)
    have h2 : Within (fitC g q fr ks s r) s := by
      unfold fitC
      by_cases hb : fitB g q fr ks.length r = true
      · rw [if_pos hb]; exact ⟨by show s.lo ≤ max s.lo _; omega, by show min s.hi _ ≤ s.hi; omega⟩
      · rw [if_neg hb]; exact ⟨Int.le_refl _, Int.le_refl _⟩
    exact ⟨Int.le_trans h2.1 h.1, Int.le_trans h.2 h2.2⟩
def sureK (rate lev : Int) (ms : List Int) (k : Nat) : List Span := (List.range k).map fun i => ⟨lvS rate lev ms i, lvS rate lev ms i⟩
def wideK (rate lev : Int) (ms : List Int) (a b : Int) (k : Nat) : List Span := (List.range k).map fun i => ⟨max (-20000) (lvS rate lev ms i - a), min 20000 (lvS rate lev ms i + b)⟩
theorem sureK_succ (rate lev : Int) (ms : List Int) (k : Nat) : sureK rate lev ms (k + 1) = sureK rate lev ms k ++ [⟨lvS rate lev ms k, lvS rate lev ms k⟩] := by simp [sureK, List.range_succ]
theorem wideK_succ (rate lev : Int) (ms : List Int) (a b : Int) (k : Nat) : wideK rate lev ms a b (k + 1) = wideK rate lev ms a b k ++ [⟨max (-20000) (lvS rate lev ms k - a), min 20000 (lvS rate lev ms k + b)⟩] := by simp [wideK, List.range_succ]
theorem sureK_len (rate lev : Int) (ms : List Int) (k : Nat) : (sureK rate lev ms k).length = k := by simp [sureK]
theorem wideK_len (rate lev : Int) (ms : List Int) (a b : Int) (k : Nat) : (wideK rate lev ms a b k).length = k := by simp [wideK]
theorem Made.value {g : Gauge} {x : Truth} {y : Gauge} {K : Nat} (h : Made g x y K) (hs : SharesOk x) (hy : GaugeOk y) {r : Reading} (hr : r ∈ y.readings) :
    ∃ n : Nat, n < x.moves.length + 1 ∧ r.tick = x.start + n ∧ Bd (r.value - lvS y.rate x.level x.moves n - shN y x (datI y.datums r.tick)) (-y.err) y.err := by
  obtain ⟨htr, rfl, hat⟩ := h
  obtain ⟨j, hj, rfl⟩ := List.mem_map.1 hr
  rw [List.mem_range] at hj
  have h0 := atS_nonneg (gaps := x.gaps) j
  have hja := hat j hj
  obtain ⟨n, hn⟩ := Int.eq_ofNat_of_zero_le h0
  have hlb := lvS_bd (rate := g.rate) htr.level x.moves n
  have hst := htr.start
  obtain ⟨d, hd1, hd2, hd3⟩ := datum_at hy (t := x.start + (n : Int)) (by omega)
  have hd1 : g.datums[datI g.datums (x.start + (n : Int))]? = some d := hd1
  have hsh := shV_eq (g := g) (x := x) (v := lvS g.rate x.level x.moves n) hd1 hd3 hs.shifts hlb
  have hsn := shN_bd (g := g) (x := x) hd1 hd3 hs.shifts
  have hdb := hd3.shift
  have her := erV_eq (g := g) (x := x) (i := j) (v := lvS g.rate x.level x.moves n + shN g x (datI g.datums (x.start + (n : Int)))) hy.err hs.errs ⟨by omega, by omega⟩
  have hk : datK g.datums (x.start + (n : Int)) g.datums.length = datI g.datums (x.start + (n : Int)) := datK_datI (g := { g with readings := mkRs g x K }) hy
  have hmk : mkR g x j = ⟨x.start + (n : Int), erV g x j (lvS g.rate x.level x.moves n + shN g x (datI g.datums (x.start + (n : Int))))⟩ := by
    unfold mkR
    rw [hn, hk, Int.toNat_natCast, hsh]
  rw [hmk]
  refine ⟨n, by omega, rfl, ?_⟩
  show Bd (erV g x j (lvS g.rate x.level x.moves n + shN g x (datI g.datums (x.start + (n : Int)))) - lvS g.rate x.level x.moves n - shN g x (datI g.datums (x.start + (n : Int)))) (-g.err) g.err
  exact ⟨by have := her.1; have : -g.err ≤ _ := this; omega, by have := her.2; have : _ ≤ g.err := this; omega⟩
/-- What is made fits the shift that it was made with. -/
theorem Made.fits {g : Gauge} {x : Truth} {y : Gauge} {K : Nat} (h : Made g x y K) (hs : SharesOk x) (hy : (checkG y).2.2 = 0) {d : Nat} (hd : d < y.datums.length) {ks : List Span} (hkl : ks.length = x.moves.length + 1)
    (hk : ∀ i, i < ks.length → (ks.getD i ⟨0, 0⟩).lo ≤ lvS y.rate x.level x.moves i ∧ lvS y.rate x.level x.moves i ≤ (ks.getD i ⟨0, 0⟩).hi) (hb : ∀ s ∈ ks, noneS s = false) :
    fitF y d x.start ks = (fitI y d x.start ks, 0) ∧ (fitI y d x.start ks).lo ≤ shN y x d ∧ shN y x d ≤ (fitI y d x.start ks).hi := by
  have hok := gaugeOk_of hy
  have hst := h.tr.start
  have hln := h.tr.len
  have hS0 : someE x.start ks.length = 0 := by
    rw [someE_eq _ _ ⟨by omega, by omega⟩, if_neg]
    rintro ⟨_, k | k⟩
    · exact k ⟨by omega, by omega⟩
    · exact k ⟨by omega, by omega⟩
  have hE : fitE y d x.start ks = 0 := by
    rw [fitE_4 hy (outB_false.2 ⟨by omega, by omega⟩) hS0, if_neg]
    intro k
    obtain ⟨s, hs1, hs2⟩ := List.any_eq_true.1 k
    rw [hb s hs1] at hs2; cases hs2
  have hm : (fitI y d x.start ks).lo ≤ shN y x d ∧ shN y x d ≤ (fitI y d x.start ks).hi := by
    unfold fitI
    refine fitS_has _ _ (fun r hr hbr => ?_) ?_
    · obtain ⟨n, hn, htk, hv⟩ := h.value hs hok hr
      simp only [fitB, Bool.and_eq_true, decide_eq_true_eq] at hbr
      have hdd : datI y.datums r.tick = d := by have := hbr.1; omega
      rw [hdd] at hv
      have hw : W64 (r.tick - x.start) = n := by rw [htk, w64_in ⟨by omega, by omega⟩]; omega
      rw [hw, Int.toNat_natCast]
      have hkn := hk n (by omega)
      generalize (ks.getD n ⟨0, 0⟩) = s at hkn
      have h1 := hv.1
      have h2 := hv.2
      have h1 : -y.err ≤ r.value - lvS y.rate x.level x.moves n - shN y x d := h1
      have h2 : r.value - lvS y.rate x.level x.moves n - shN y x d ≤ y.err := h2
      exact ⟨by show r.value - y.err - s.hi ≤ _; omega, by show _ ≤ r.value + y.err - s.lo; omega⟩
    · rw [Int.toNat_natCast]
      have hx : y.datums[d]? = some y.datums[d] := List.getElem?_eq_getElem hd
      have := shN_bd (g := y) (x := x) hx (hok.datums _ (List.getElem_mem hd)) hs.shifts
      rw [getD_hit hx]
      exact this
  refine ⟨?_, hm⟩
  unfold fitF
  rw [if_neg (fun k => k hE), if_neg (by omega)]
theorem Made.fitted {g : Gauge} {x : Truth} {y : Gauge} {K : Nat} (h : Made g x y K) (hs : SharesOk x) (hy : (checkG y).2.2 = 0) {d : Nat} (hd : d < y.datums.length) {a b : Int} (ha : Bd a 0 255) (hb : Bd b 0 255) :
    let F := fitF y d x.start (sureK y.rate x.level x.moves (x.moves.length + 1))
    let G := fitF y d x.start (wideK y.rate x.level x.moves a b (x.moves.length + 1))
    F.2 = 0 ∧ G.2 = 0 ∧ hasB F.1 (shN y x d) = true ∧ withinB F.1 G.1 = true ∧ withinB G.1 (y.datums.getD d ⟨0, ⟨0, 0⟩⟩).shift = true := by
  have hlb : ∀ i, Bd (lvS y.rate x.level x.moves i) (-20000) 20000 := fun i => lvS_bd h.tr.level x.moves i
  have g1 : ∀ i, i < x.moves.length + 1 → (sureK y.rate x.level x.moves (x.moves.length + 1)).getD i ⟨0, 0⟩ = ⟨lvS y.rate x.level x.moves i, lvS y.rate x.level x.moves i⟩ := fun i hi => by simp [sureK, hi]
  have g2 : ∀ i, i < x.moves.length + 1 → (wideK y.rate x.level x.moves a b (x.moves.length + 1)).getD i ⟨0, 0⟩ = ⟨max (-20000) (lvS y.rate x.level x.moves i - a), min 20000 (lvS y.rate x.level x.moves i + b)⟩ := fun i hi => by simp [wideK, hi]
  obtain ⟨e1, m1, m2⟩ := h.fits hs hy hd (ks := sureK y.rate x.level x.moves (x.moves.length + 1)) (sureK_len ..) (fun i hi => by rw [sureK_len] at hi; rw [g1 i hi]; exact ⟨Int.le_refl _, Int.le_refl _⟩)
    (fun s hsm => by obtain ⟨i, _, rfl⟩ := List.mem_map.1 hsm; have := hlb i; exact noneS_iff.2 ⟨this.1, Int.le_refl _, this.2⟩)
  obtain ⟨e2, _, _⟩ := h.fits hs hy hd (ks := wideK y.rate x.level x.moves a b (x.moves.length + 1)) (wideK_len ..) (fun i hi => by rw [wideK_len] at hi; rw [g2 i hi]; have := hlb i; exact ⟨by show max _ _ ≤ _; omega, by show _ ≤ min _ _; omega⟩)
    (fun s hsm => by obtain ⟨i, _, rfl⟩ := List.mem_map.1 hsm; have := hlb i; exact noneS_iff.2 ⟨by show _ ≤ max _ _; omega, by show max _ _ ≤ min _ _; omega, by show min _ _ ≤ _; omega⟩)
  rw [e1, e2]
  refine ⟨rfl, rfl, hasB_iff.2 ⟨m1, m2⟩, withinB_iff.2 ?_, withinB_iff.2 ?_⟩
  · refine fitS_within (by rw [sureK_len, wideK_len]) (fun i hi => ?_) _ _ _ ⟨Int.le_refl _, Int.le_refl _⟩
    rw [sureK_len] at hi
    rw [g1 i hi, g2 i hi]
    have := hlb i
    exact ⟨by show max _ _ ≤ lvS y.rate x.level x.moves i; omega, by show lvS y.rate x.level x.moves i ≤ min _ _; omega⟩
  · have := fitS_less (g := y) (q := d) (fr := x.start) (ks := wideK y.rate x.level x.moves a b (x.moves.length + 1)) y.readings (y.datums.getD (d : Int).toNat ⟨0, ⟨0, 0⟩⟩).shift
    rw [Int.toNat_natCast] at this
    unfold fitI
    rw [Int.toNat_natCast]
    exact this
end Bx
/- part Wk36 -/
namespace Go.Proofs.Ytpgmehignepidaa
open Go Bx
set_option maxHeartbeats 2000000 in
/-- barrage/tide.Residual -/
theorem c_Residual {t : Table} {cs : List Value} {l : List Gauge} {v : Value} {wrong tick now : Int} {w0 : World} (ht : RTable w0 cs t) (hl : Sl w0 5 RGauge v l) (hw : I64 wrong) (hti : I64 tick) (hn : I64 now) : CV Try.prog 44 #[.agg cs.toArray, v, .int .i64 wrong, .int .i64 tick, .int .i64 now] w0 (.tuple #[.agg (spanC (residF t l wrong tick now).1).toArray, .int .i64 (residF t l wrong tick now).2]) := by
  obtain ⟨cv, rfl, hmean, hsl⟩ := id ht
  refine enter Try.func44 rfl Try.ntmps44 rfl ?_
  have hS := St.start w0
  refine seq ?_
  refine region ?_
  refine sbox hS rfl rfl ?_; clear hS; intro b5 w hS
  refine salloc hS Try.zeroValue38 rfl ?_; clear hS; intro b10 w hS
  refine sv (yAsg rfl) ?_
  refine nil ?_
  show Code.wp _ _ _ _ _
  refine seq ?_
  refine region ?_
  refine sv (yLdBA rfl Try.isAgg24 Try.sizeOf24 (hS.at _) rfl rfl) ?_
  refine scall Try.call19 (.cons rfl .nil) (c_Check (ht.ext hS.ext)) ?_
  rintro _ w ⟨rfl, hE⟩; replace hS := hS.step hE; clear hE
  refine sv (yMove rfl) ?_
  refine sv (yExt rfl rfl) ?_
  refine sv (yExt rfl rfl) ?_
  refine sv (yAsg rfl) ?_
  refine sv (yAsg rfl) ?_
  refine nil ?_
  show Code.wp _ _ _ _ _
  refine seq ?_
  refine seq ?_
  refine region ?_
  refine sv (yMove rfl) ?_
  refine sv (yNeq rfl rfl) ?_
  refine nil ?_
  show Code.wp _ _ _ _ _
  refine cond rfl (fun c22 => ?_) (fun c22 => ?_)
  ·
    simp only [Bool.and_eq_true, Bool.or_eq_true, Bool.and_eq_false_iff, Bool.or_eq_false_iff, decide_eq_true_eq, decide_eq_false_iff_not, Bool.not_eq_true, Bool.not_eq_false, Bool.not_not, Bool.not_eq_eq_eq_not, Bool.not_true, Bool.not_false, Bool.false_eq_true, Bool.true_eq_false, ne_eq, Decidable.not_not, not_false_eq_true, not_true_eq_false] at c22
    have hfin : residF t l wrong tick now = (⟨0, 0⟩, (checkT t).2) := by unfold residF; rw [if_pos c22]
    refine seq ?_
    refine region ?_
    refine sv (yBuild Try.zeroValue38 rfl pl38 .nil rfl) ?_
    refine sv (yMove rfl) ?_
    refine sst hS rfl rfl Try.sizeOf38 rfl rfl rfl rfl ?_; clear hS; intro w hS
    refine sv (yAsg rfl) ?_
    refine nil ?_
    show Code.wp _ _ _ _ _
    refine wp_ret (thenR ?_)
    exact retV (resV2 rfl (rc rfl Try.isAgg38 Try.sizeOf38 (hS.at _) (by rw [hfin]; rfl) rfl) (rt (eqI (by rw [hfin])))) hS.ext
  ·
    simp only [Bool.and_eq_true, Bool.or_eq_true, Bool.and_eq_false_iff, Bool.or_eq_false_iff, decide_eq_true_eq, decide_eq_false_iff_not, Bool.not_eq_true, Bool.not_eq_false, Bool.not_not, Bool.not_eq_eq_eq_not, Bool.not_true, Bool.not_false, Bool.false_eq_true, Bool.true_eq_false, ne_eq, Decidable.not_not, not_false_eq_true, not_true_eq_false] at c22
    have hok := tableOk_of c22
    refine skip ?_
    show Code.wp _ _ _ _ _
    refine seq ?_
    refine region ?_
    refine sv (yMove rfl) ?_
    refine sv (yMove rfl) ?_
    refine sv (yMove rfl) ?_
    refine sv (yMove rfl) ?_
    refine scall Try.call37 (.cons rfl (.cons rfl (.cons rfl (.cons rfl .nil)))) (c_Sound (hl.ext RGauge.stays hS.ext) hw hti hn) ?_
    rintro _ w ⟨rfl, hE⟩; replace hS := hS.step hE; clear hE
    refine sv (yMove rfl) ?_
    refine sv (yExt rfl rfl) ?_
    refine sv (yExt rfl rfl) ?_
    refine salloc hS Try.zeroValue38 rfl ?_; clear hS; intro b14 w hS
    refine sst hS rfl rfl Try.sizeOf38 rfl rfl rfl rfl ?_; clear hS; intro w hS
    refine sv (yAsg rfl) ?_
    refine nil ?_
    show Code.wp _ _ _ _ _
    refine seq ?_
    refine seq ?_
    refine region ?_
    refine sv (yMove rfl) ?_
    refine sv (yNeq rfl rfl) ?_
    refine nil ?_
    show Code.wp _ _ _ _ _
    refine cond rfl (fun c34 => ?_) (fun c34 => ?_)
    ·
      simp only [Bool.and_eq_true, Bool.or_eq_true, Bool.and_eq_false_iff, Bool.or_eq_false_iff, decide_eq_true_eq, decide_eq_false_iff_not, Bool.not_eq_true, Bool.not_eq_false, Bool.not_not, Bool.not_eq_eq_eq_not, Bool.not_true, Bool.not_false, Bool.false_eq_true, Bool.true_eq_false, ne_eq, Decidable.not_not, not_false_eq_true, not_true_eq_false] at c34
      have hfin : residF t l wrong tick now = (⟨0, 0⟩, (soundF l wrong tick now).2) := by unfold residF; rw [if_neg (fun h => h c22), if_pos c34]
      refine seq ?_
      refine region ?_
      refine sv (yBuild Try.zeroValue38 rfl pl38 .nil rfl) ?_
      refine sv (yMove rfl) ?_
      refine sst hS rfl rfl Try.sizeOf38 rfl rfl rfl rfl ?_; clear hS; intro w hS
      refine sv (yAsg rfl) ?_
      refine nil ?_
      show Code.wp _ _ _ _ _
      refine wp_ret (thenR ?_)
      exact retV (resV2 rfl (rc rfl Try.isAgg38 Try.sizeOf38 (hS.at _) (by rw [hfin]; rfl) rfl) (rt (eqI (by rw [hfin])))) hS.ext
    ·
      simp only [Bool.and_eq_true, Bool.or_eq_true, Bool.and_eq_false_iff, Bool.or_eq_false_iff, decide_eq_true_eq, decide_eq_false_iff_not, Bool.not_eq_true, Bool.not_eq_false, Bool.not_not, Bool.not_eq_eq_eq_not, Bool.not_true, Bool.not_false, Bool.false_eq_true, Bool.true_eq_false, ne_eq, Decidable.not_not, not_false_eq_true, not_true_eq_false] at c34
      obtain ⟨hE0, htb, hs1, hs2, hs3⟩ := soundF_zero c34
      have hlb := lvlT_bd hok tick
      have hfin : residF t l wrong tick now = (⟨(soundF l wrong tick now).1.lo - (lvlT t tick).hi, (soundF l wrong tick now).1.hi - (lvlT t tick).lo⟩, 0) := by unfold residF; rw [if_neg (fun h => h c22), if_neg (fun h => h c34)]
      refine skip ?_
      show Code.wp _ _ _ _ _
      refine seq ?_
      refine region ?_
      refine sv (yLdBA rfl Try.isAgg24 Try.sizeOf24 (hS.at _) rfl rfl) ?_
      refine sv (yMove rfl) ?_
      refine scall Try.call71 (.cons rfl (.cons rfl (.cons rfl .nil))) (c_levels (n := 1) (hsl.ext RConst.stays hS.ext) hok htb (by omega)) ?_
      rintro ov w hM; replace hS := hS.call1 hM; clear hM; obtain ⟨g, cap, rfl, _, _, hcl⟩ := row_some (hS.row ov) (by decide); rw [lvl1] at hcl
      refine sv (yIx rfl rfl Try.runUnderlying61 Try.sizeOf38 (by omega) (by omega)) ?_
      refine sv (yLdA rfl Try.isAgg38 Try.sizeOf38 hcl rfl) ?_
      refine salloc hS Try.zeroValue38 rfl ?_; clear hS; intro b15 w hS
      refine sst hS rfl rfl Try.sizeOf38 rfl rfl rfl rfl ?_; clear hS; intro w hS
      refine nil ?_
      show Code.wp _ _ _ _ _
      refine seq ?_
      refine region ?_
      refine sv (fa38_0 rfl) ?_
      refine sv (yLdB rfl Try.isAgg3 (hS.at _) rfl) ?_
      refine sv (fa38_1 rfl) ?_
      refine sv (yLdB rfl Try.isAgg3 (hS.at _) rfl) ?_
      refine sv (ySub rfl rfl ⟨by omega, by omega⟩) ?_
      refine sv (fa38_1 rfl) ?_
      refine sv (yLdB rfl Try.isAgg3 (hS.at _) rfl) ?_
      refine sv (fa38_0 rfl) ?_
      refine sv (yLdB rfl Try.isAgg3 (hS.at _) rfl) ?_
      refine sv (ySub rfl rfl ⟨by omega, by omega⟩) ?_
      refine sv (yBuild Try.zeroValue38 rfl pl38 (.cons rfl rfl (.cons rfl rfl .nil)) rfl) ?_
      refine sst hS rfl rfl Try.sizeOf38 rfl rfl rfl rfl ?_; clear hS; intro w hS
      refine sv (yAsg rfl) ?_
      refine nil ?_
      show Code.wp _ _ _ _ _
      refine wp_ret ?_
      exact retV (resV2 rfl (rc rfl Try.isAgg38 Try.sizeOf38 (hS.at _) (by rw [hfin]; rfl) rfl) (rt (eqI (by rw [hfin])))) hS.ext
set_option maxHeartbeats 2000000 in
/-- barrage/barrageref01.Residual -/
theorem c_rResidual {t : Table} {cs : List Value} {l : List Gauge} {v : Value} {wrong tick now : Int} {w0 : World} (ht : RTable w0 cs t) (hl : Sl w0 5 RGauge v l) (hw : I64 wrong) (hti : I64 tick) (hn : I64 now) : CV Try.prog 45 #[.agg cs.toArray, v, .int .i64 wrong, .int .i64 tick, .int .i64 now] w0 (.tuple #[.agg (spanC (residF t l wrong tick now).1).toArray, .int .i64 (residF t l wrong tick now).2]) := by
  obtain ⟨cv, rfl, hmean, hsl⟩ := id ht
  have hsq := sound_law l wrong tick now
  refine enter Try.func45 rfl Try.ntmps45 rfl ?_
  have hS := St.start w0
  refine seq ?_
  refine region ?_
  refine sbox hS rfl rfl ?_; clear hS; intro b5 w hS
  refine salloc hS Try.zeroValue38 rfl ?_; clear hS; intro b10 w hS
  refine sv (yAsg rfl) ?_
  refine nil ?_
  show Code.wp _ _ _ _ _
  refine seq ?_
  refine region ?_
  refine sv (yLdBA rfl Try.isAgg24 Try.sizeOf24 (hS.at _) rfl rfl) ?_
  refine scall Try.call20 (.cons rfl .nil) (c_rCheck (ht.ext hS.ext)) ?_
  rintro _ w ⟨rfl, hE⟩; replace hS := hS.step hE; clear hE
  refine sv (yMove rfl) ?_
  refine sv (yExt rfl rfl) ?_
  refine sv (yExt rfl rfl) ?_
  refine sv (yAsg rfl) ?_
  refine sv (yAsg rfl) ?_
  refine nil ?_
  show Code.wp _ _ _ _ _
  refine seq ?_
  refine seq ?_
  refine region ?_
  refine sv (yMove rfl) ?_
  refine sv (yNeq rfl rfl) ?_
  refine nil ?_
  show Code.wp _ _ _ _ _
  refine cond rfl (fun c22 => ?_) (fun c22 => ?_)
  ·
    simp only [Bool.and_eq_true, Bool.or_eq_true, Bool.and_eq_false_iff, Bool.or_eq_false_iff, decide_eq_true_eq, decide_eq_false_iff_not, Bool.not_eq_true, Bool.not_eq_false, Bool.not_not, Bool.not_eq_eq_eq_not, Bool.not_true, Bool.not_false, Bool.false_eq_true, Bool.true_eq_false, ne_eq, Decidable.not_not, not_false_eq_true, not_true_eq_false] at c22
    have hfin : residF t l wrong tick now = (⟨0, 0⟩, (checkT t).2) := by unfold residF; rw [if_pos c22]
    refine seq ?_
    refine region ?_
    refine sv (yBuild Try.zeroValue38 rfl pl38 .nil rfl) ?_
    refine sv (yMove rfl) ?_
    refine sst hS rfl rfl Try.sizeOf38 rfl rfl rfl rfl ?_; clear hS; intro w hS
    refine sv (yAsg rfl) ?_
    refine nil ?_
    show Code.wp _ _ _ _ _
    refine wp_ret (thenR ?_)
    exact retV (resV2 rfl (rc rfl Try.isAgg38 Try.sizeOf38 (hS.at _) (by rw [hfin]; rfl) rfl) (rt (eqI (by rw [hfin])))) hS.ext
  ·
    simp only [Bool.and_eq_true, Bool.or_eq_true, Bool.and_eq_false_iff, Bool.or_eq_false_iff, decide_eq_true_eq, decide_eq_false_iff_not, Bool.not_eq_true, Bool.not_eq_false, Bool.not_not, Bool.not_eq_eq_eq_not, Bool.not_true, Bool.not_false, Bool.false_eq_true, Bool.true_eq_false, ne_eq, Decidable.not_not, not_false_eq_true, not_true_eq_false] at c22
    have hok := tableOk_of c22
    refine skip ?_
    show Code.wp _ _ _ _ _
    refine seq ?_
    refine region ?_
    refine sv (yMove rfl) ?_
    refine sv (yMove rfl) ?_
    refine sv (yMove rfl) ?_
    refine sv (yMove rfl) ?_
    refine scall Try.call38 (.cons rfl (.cons rfl (.cons rfl (.cons rfl .nil)))) (c_rSound (hl.ext RGauge.stays hS.ext)) ?_
    rw [← hsq]
    rintro _ w ⟨rfl, hE⟩; replace hS := hS.step hE; clear hE
    refine sv (yMove rfl) ?_
    refine sv (yExt rfl rfl) ?_
    refine sv (yExt rfl rfl) ?_
    refine salloc hS Try.zeroValue38 rfl ?_; clear hS; intro b14 w hS
    refine sst hS rfl rfl Try.sizeOf38 rfl rfl rfl rfl ?_; clear hS; intro w hS
    refine sv (yAsg rfl) ?_
    refine nil ?_
    show Code.wp _ _ _ _ _
    refine seq ?_
    refine seq ?_
    refine region ?_
    refine sv (yMove rfl) ?_
    refine sv (yNeq rfl rfl) ?_
    refine nil ?_
    show Code.wp _ _ _ _ _
    refine cond rfl (fun c34 => ?_) (fun c34 => ?_)
    ·
      simp only [Bool.and_eq_true, Bool.or_eq_true, Bool.and_eq_false_iff, Bool.or_eq_false_iff, decide_eq_true_eq, decide_eq_false_iff_not, Bool.not_eq_true, Bool.not_eq_false, Bool.not_not, Bool.not_eq_eq_eq_not, Bool.not_true, Bool.not_false, Bool.false_eq_true, Bool.true_eq_false, ne_eq, Decidable.not_not, not_false_eq_true, not_true_eq_false] at c34
      have hfin : residF t l wrong tick now = (⟨0, 0⟩, (soundF l wrong tick now).2) := by unfold residF; rw [if_neg (fun h => h c22), if_pos c34]
      refine seq ?_
      refine region ?_
      refine sv (yBuild Try.zeroValue38 rfl pl38 .nil rfl) ?_
      refine sv (yMove rfl) ?_
      refine sst hS rfl rfl Try.sizeOf38 rfl rfl rfl rfl ?_; clear hS; intro w hS
      refine sv (yAsg rfl) ?_
      refine nil ?_
      show Code.wp _ _ _ _ _
      refine wp_ret (thenR ?_)
      exact retV (resV2 rfl (rc rfl Try.isAgg38 Try.sizeOf38 (hS.at _) (by rw [hfin]; rfl) rfl) (rt (eqI (by rw [hfin])))) hS.ext
    ·
      simp only [Bool.and_eq_true, Bool.or_eq_true, Bool.and_eq_false_iff, Bool.or_eq_false_iff, decide_eq_true_eq, decide_eq_false_iff_not, Bool.not_eq_true, Bool.not_eq_false, Bool.not_not, Bool.not_eq_eq_eq_not, Bool.not_true, Bool.not_false, Bool.false_eq_true, Bool.true_eq_false, ne_eq, Decidable.not_not, not_false_eq_true, not_true_eq_false] at c34
      obtain ⟨hE0, htb, hs1, hs2, hs3⟩ := soundF_zero c34
      have hlb := lvlT_bd hok tick
      have hfin : residF t l wrong tick now = (⟨(soundF l wrong tick now).1.lo - (lvlT t tick).hi, (soundF l wrong tick now).1.hi - (lvlT t tick).lo⟩, 0) := by unfold residF; rw [if_neg (fun h => h c22), if_neg (fun h => h c34)]
      refine skip ?_
      show Code.wp _ _ _ _ _
      refine seq ?_
      refine region ?_
      refine sv (yLdBA rfl Try.isAgg24 Try.sizeOf24 (hS.at _) rfl rfl) ?_
      refine sv (yMove rfl) ?_
      refine scall Try.call73 (.cons rfl (.cons rfl .nil)) (c_rlevel (ht.ext hS.ext) hok ⟨by omega, by omega⟩) ?_
      rintro _ w ⟨rfl, hE⟩; replace hS := hS.step hE; clear hE
      refine salloc hS Try.zeroValue38 rfl ?_; clear hS; intro b15 w hS
      refine sst hS rfl rfl Try.sizeOf38 rfl rfl rfl rfl ?_; clear hS; intro w hS
      refine nil ?_
      show Code.wp _ _ _ _ _
      refine seq ?_
      refine region ?_
      refine sv (fa38_0 rfl) ?_
      refine sv (yLdB rfl Try.isAgg3 (hS.at _) rfl) ?_
      refine sv (fa38_1 rfl) ?_
      refine sv (yLdB rfl Try.isAgg3 (hS.at _) rfl) ?_
      refine sv (ySub rfl rfl ⟨by omega, by omega⟩) ?_
      refine sv (fa38_1 rfl) ?_
      refine sv (yLdB rfl Try.isAgg3 (hS.at _) rfl) ?_
      refine sv (fa38_0 rfl) ?_
      refine sv (yLdB rfl Try.isAgg3 (hS.at _) rfl) ?_
      refine sv (ySub rfl rfl ⟨by omega, by omega⟩) ?_
      refine sv (yBuild Try.zeroValue38 rfl pl38 (.cons rfl rfl (.cons rfl rfl .nil)) rfl) ?_
      refine sst hS rfl rfl Try.sizeOf38 rfl rfl rfl rfl ?_; clear hS; intro w hS
      refine sv (yAsg rfl) ?_
      refine nil ?_
      show Code.wp _ _ _ _ _
      refine wp_ret ?_
      exact retV (resV2 rfl (rc rfl Try.isAgg38 Try.sizeOf38 (hS.at _) (by rw [hfin]; rfl) rfl) (rt (eqI (by rw [hfin])))) hS.ext
end Go.Proofs.Ytpgmehignepidaa
/- part Wk37 -/
namespace Go.Proofs.Ytpgmehignepidaa
open Go Bx
set_option maxHeartbeats 2000000 in
/-- barrage/barragelaw01.TideResiduals -/
theorem w_TideResiduals {t : Table} {cs : List Value} {l : List Gauge} {v : Value} {xs : List Value} {x : At} {w0 : World} (ht : RTable w0 cs t) (hl : Sl w0 5 RGauge v l) (hx : RAt w0 xs x) : CV Try.prog 14 #[.agg cs.toArray, v, .agg xs.toArray] w0 (.bool true) := by
  obtain ⟨cv, rfl, hmean, hsl⟩ := id ht
  obtain ⟨wrong, tick, now⟩ := x
  replace hx : xs = [.int .i64 wrong, .int .i64 tick, .int .i64 now] ∧ I64 wrong ∧ I64 tick ∧ I64 now := hx
  obtain ⟨rfl, hw, hti, hn⟩ := hx
  refine enter Try.func14 rfl Try.ntmps14 rfl ?_
  have hS := St.start w0
  refine seq ?_
  refine region ?_
  refine sbox hS rfl rfl ?_; clear hS; intro b3 w hS
  refine sbox hS rfl rfl ?_; clear hS; intro b5 w hS
  refine sv (yAsg rfl) ?_
  refine nil ?_
  show Code.wp _ _ _ _ _
  refine seq ?_
  refine region ?_
  refine sv (yLdBA rfl Try.isAgg24 Try.sizeOf24 (hS.at _) rfl rfl) ?_
  refine sv (yMove rfl) ?_
  refine sv (fa68_0 rfl) ?_
  refine sv (yLdB rfl Try.isAgg3 (hS.at _) rfl) ?_
  refine sv (fa68_1 rfl) ?_
  refine sv (yLdB rfl Try.isAgg3 (hS.at _) rfl) ?_
  refine sv (fa68_2 rfl) ?_
  refine sv (yLdB rfl Try.isAgg3 (hS.at _) rfl) ?_
  refine scall Try.call44 (.cons rfl (.cons rfl (.cons rfl (.cons rfl (.cons rfl .nil))))) (c_Residual (ht.ext hS.ext) (hl.ext RGauge.stays hS.ext) hw hti hn) ?_
  rintro _ w ⟨rfl, hE⟩; replace hS := hS.step hE; clear hE
  refine sv (yMove rfl) ?_
  refine sv (yExt rfl rfl) ?_
  refine sv (yExt rfl rfl) ?_
  refine salloc hS Try.zeroValue38 rfl ?_; clear hS; intro b7 w hS
  refine sst hS rfl rfl Try.sizeOf38 rfl rfl rfl rfl ?_; clear hS; intro w hS
  refine sv (yAsg rfl) ?_
  refine nil ?_
  show Code.wp _ _ _ _ _
  refine seq ?_
  refine region ?_
  refine sv (yLdBA rfl Try.isAgg24 Try.sizeOf24 (hS.at _) rfl rfl) ?_
  refine sv (yMove rfl) ?_
  refine sv (fa68_0 rfl) ?_
  refine sv (yLdB rfl Try.isAgg3 (hS.at _) rfl) ?_
  refine sv (fa68_1 rfl) ?_
  refine sv (yLdB rfl Try.isAgg3 (hS.at _) rfl) ?_
  refine sv (fa68_2 rfl) ?_
  refine sv (yLdB rfl Try.isAgg3 (hS.at _) rfl) ?_
  refine scall Try.call45 (.cons rfl (.cons rfl (.cons rfl (.cons rfl (.cons rfl .nil))))) (c_rResidual (ht.ext hS.ext) (hl.ext RGauge.stays hS.ext) hw hti hn) ?_
  rintro _ w ⟨rfl, hE⟩; replace hS := hS.step hE; clear hE
  refine sv (yMove rfl) ?_
  refine sv (yExt rfl rfl) ?_
  refine sv (yExt rfl rfl) ?_
  refine salloc hS Try.zeroValue38 rfl ?_; clear hS; intro b9 w hS
  refine sst hS rfl rfl Try.sizeOf38 rfl rfl rfl rfl ?_; clear hS; intro w hS
  refine sv (yAsg rfl) ?_
  refine nil ?_
  show Code.wp _ _ _ _ _
  refine seq ?_
  refine region ?_
  refine sv (yLdBA rfl Try.isAgg38 Try.sizeOf38 (hS.at _) rfl rfl) ?_
  refine sv (yLdBA rfl Try.isAgg38 Try.sizeOf38 (hS.at _) rfl rfl) ?_
  refine sv (eqS38 rfl rfl) ?_
  refine sv (yMove rfl) ?_
  refine sg rfl rfl rfl (fun g => (yMove rfl)) (fun v39 g39 => ?_)
  refine sg rfl rfl rfl (fun g => (yMove rfl)) (fun v40 g40 => ?_)
  refine sg rfl rfl rfl (fun g => (yEql (g39.1 g) (g40.1 g))) (fun v41 g41 => ?_)
  refine sv (yAnd rfl (fun hB => (g41.1 hB)) rfl) ?_
  refine sv (yMove rfl) ?_
  refine sgc hS rfl rfl rfl Try.call23 (fun g => .nil) (fun g => c_Awake) ?_; clear hS; intro v44 w hS g44
  refine sv (yAnd rfl (fun hB => (g44.1 hB)) rfl) ?_
  refine sv (yAsg rfl) ?_
  refine nil ?_
  show Code.wp _ _ _ _ _
  refine wp_ret ?_
  exact retV (res1 rfl (eqB (by simp))) hS.ext
set_option maxHeartbeats 4000000 in
/-- barrage/barragelaw01.TideDiffers -/
theorem w_TideDiffers {t : Table} {cs : List Value} {l : List Gauge} {v : Value} {xs : List Value} {x : Two} {w0 : World} (ht : RTable w0 cs t) (hl : Sl w0 5 RGauge v l) (hx : RTwo w0 xs x) : CV Try.prog 15 #[.agg cs.toArray, v, .agg xs.toArray] w0 (.bool true) := by
  obtain ⟨cv, rfl, hmean, hsl⟩ := id ht
  obtain ⟨⟨wrong, tick, now⟩, xa, xb⟩ := x
  replace hx : xs = [.int .i64 wrong, .int .i64 tick, .int .i64 now, .int .u8 xa, .int .u8 xb] ∧ I64 wrong ∧ I64 tick ∧ I64 now ∧ Bd xa 0 255 ∧ Bd xb 0 255 := hx
  obtain ⟨rfl, hw, hti, hn, hxa, hxb⟩ := hx
  refine enter Try.func15 rfl Try.ntmps15 rfl ?_
  have hS := St.start w0
  refine seq ?_
  refine region ?_
  refine sbox hS rfl rfl ?_; clear hS; intro b3 w hS
  refine sbox hS rfl rfl ?_; clear hS; intro b5 w hS
  refine sv (yAsg rfl) ?_
  refine nil ?_
  show Code.wp _ _ _ _ _
  refine seq ?_
  refine region ?_
  refine sv (yLdBA rfl Try.isAgg24 Try.sizeOf24 (hS.at _) rfl rfl) ?_
  refine sv (yMove rfl) ?_
  refine sv (fa84_0 rfl) ?_
  refine sv (fa68_0 rfl) ?_
  refine sv (yLdB rfl Try.isAgg3 (hS.at _) rfl) ?_
  refine sv (fa84_0 rfl) ?_
  refine sv (fa68_1 rfl) ?_
  refine sv (yLdB rfl Try.isAgg3 (hS.at _) rfl) ?_
  refine sv (fa84_0 rfl) ?_
  refine sv (fa68_2 rfl) ?_
  refine sv (yLdB rfl Try.isAgg3 (hS.at _) rfl) ?_
  refine scall Try.call44 (.cons rfl (.cons rfl (.cons rfl (.cons rfl (.cons rfl .nil))))) (c_Residual (ht.ext hS.ext) (hl.ext RGauge.stays hS.ext) hw hti hn) ?_
  rintro _ w ⟨rfl, hE⟩; replace hS := hS.step hE; clear hE
  refine sv (yMove rfl) ?_
  refine sv (yExt rfl rfl) ?_
  refine sv (yExt rfl rfl) ?_
  refine salloc hS Try.zeroValue38 rfl ?_; clear hS; intro b7 w hS
  refine sst hS rfl rfl Try.sizeOf38 rfl rfl rfl rfl ?_; clear hS; intro w hS
  refine sv (yAsg rfl) ?_
  refine nil ?_
  show Code.wp _ _ _ _ _
  refine seq ?_
  refine region ?_
  refine sv (yMove rfl) ?_
  refine sv (fa84_0 rfl) ?_
  refine sv (fa68_0 rfl) ?_
  refine sv (yLdB rfl Try.isAgg3 (hS.at _) rfl) ?_
  refine sv (fa84_0 rfl) ?_
  refine sv (fa68_1 rfl) ?_
  refine sv (yLdB rfl Try.isAgg3 (hS.at _) rfl) ?_
  refine sv (fa84_0 rfl) ?_
  refine sv (fa68_2 rfl) ?_
  refine sv (yLdB rfl Try.isAgg3 (hS.at _) rfl) ?_
  refine scall Try.call37 (.cons rfl (.cons rfl (.cons rfl (.cons rfl .nil)))) (c_Sound (hl.ext RGauge.stays hS.ext) hw hti hn) ?_
  rintro _ w ⟨rfl, hE⟩; replace hS := hS.step hE; clear hE
  refine sv (yMove rfl) ?_
  refine sv (yExt rfl rfl) ?_
  refine sv (yExt rfl rfl) ?_
  refine salloc hS Try.zeroValue38 rfl ?_; clear hS; intro b9 w hS
  refine sst hS rfl rfl Try.sizeOf38 rfl rfl rfl rfl ?_; clear hS; intro w hS
  refine sv (yAsg rfl) ?_
  refine nil ?_
  show Code.wp _ _ _ _ _
  refine seq ?_
  refine region ?_
  refine sv (yLdBA rfl Try.isAgg24 Try.sizeOf24 (hS.at _) rfl rfl) ?_
  refine sv (fa84_0 rfl) ?_
  refine sv (fa68_1 rfl) ?_
  refine sv (yLdB rfl Try.isAgg3 (hS.at _) rfl) ?_
  refine scall Try.call28 (.cons rfl (.cons rfl .nil)) (c_Level (ht.ext hS.ext) hti) ?_
  rintro _ w ⟨rfl, hE⟩; replace hS := hS.step hE; clear hE
  refine sv (yMove rfl) ?_
  refine sv (yExt rfl rfl) ?_
  refine sv (yExt rfl rfl) ?_
  refine salloc hS Try.zeroValue38 rfl ?_; clear hS; intro b11 w hS
  refine sst hS rfl rfl Try.sizeOf38 rfl rfl rfl rfl ?_; clear hS; intro w hS
  refine sv (yAsg rfl) ?_
  refine nil ?_
  show Code.wp _ _ _ _ _
  refine seq ?_
  refine seq ?_
  refine region ?_
  refine sv (yMove rfl) ?_
  refine sv (yNeq rfl rfl) ?_
  refine nil ?_
  show Code.wp _ _ _ _ _
  refine cond rfl (fun c53 => ?_) (fun c53 => ?_)
  ·
    simp only [Bool.and_eq_true, Bool.or_eq_true, Bool.and_eq_false_iff, Bool.or_eq_false_iff, decide_eq_true_eq, decide_eq_false_iff_not, Bool.not_eq_true, Bool.not_eq_false, Bool.not_not, Bool.not_eq_eq_eq_not, Bool.not_true, Bool.not_false, Bool.false_eq_true, Bool.true_eq_false, ne_eq, Decidable.not_not, not_false_eq_true, not_true_eq_false] at c53
    have hor : (soundF l wrong tick now).2 ≠ 0 ∨ (levelF t tick).2 ≠ 0 := by
      refine Classical.byContradiction fun hn2 => c53 (resid_e.2 ⟨?_, ?_⟩)
      · exact Decidable.byContradiction fun k => hn2 (.inr (by unfold levelF; rw [if_pos k]; exact k))
      · exact Decidable.byContradiction fun k => hn2 (.inl k)
    refine seq ?_
    refine region ?_
    refine sv (yMove rfl) ?_
    refine sv (yNeq rfl rfl) ?_
    refine sv (yMove rfl) ?_
    refine sg rfl rfl rfl (fun g => (yMove rfl)) (fun v57 g57 => ?_)
    refine sg rfl rfl rfl (fun g => (yNeq (g57.1 g) rfl)) (fun v58 g58 => ?_)
    refine sv (yOr rfl rfl (fun hB => (g58.1 hB))) ?_
    refine sv (yMove rfl) ?_
    refine sgc hS rfl rfl rfl Try.call23 (fun g => .nil) (fun g => c_Awake) ?_; clear hS; intro v61 w hS g61
    refine sv (yAnd rfl (fun hB => (g61.1 hB)) rfl) ?_
    refine sv (yAsg rfl) ?_
    refine nil ?_
    show Code.wp _ _ _ _ _
    refine wp_ret (thenR ?_)
    exact retV (res1 rfl (eqB (by simpa using hor))) hS.ext
  ·
    simp only [Bool.and_eq_true, Bool.or_eq_true, Bool.and_eq_false_iff, Bool.or_eq_false_iff, decide_eq_true_eq, decide_eq_false_iff_not, Bool.not_eq_true, Bool.not_eq_false, Bool.not_not, Bool.not_eq_eq_eq_not, Bool.not_true, Bool.not_false, Bool.false_eq_true, Bool.true_eq_false, ne_eq, Decidable.not_not, not_false_eq_true, not_true_eq_false] at c53
    obtain ⟨hC, hS0⟩ := resid_e.1 c53
    obtain ⟨hE0, htb, hs1, hs2, hs3⟩ := soundF_zero hS0
    have hok := tableOk_of hC
    have hlb := lvlT_bd hok tick
    have hll := lvlT_le hok tick
    have hLp := levelF_ok hC htb
    have hR : residF t l wrong tick now = (⟨(soundF l wrong tick now).1.lo - (lvlT t tick).hi, (soundF l wrong tick now).1.hi - (lvlT t tick).lo⟩, 0) := by unfold residF; rw [if_neg (fun h => h hC), if_neg (fun h => h hS0)]
    rw [hLp, hR] at hS
    dsimp only [spanC] at hS
    have hpa := part255 hs1 hxa
    have hpb := part255 hll hxb
    have hm1 : 0 ≤ ((soundF l wrong tick now).1.hi - (soundF l wrong tick now).1.lo) * xa := Int.mul_nonneg (by omega) hxa.1
    have hm2 : ((soundF l wrong tick now).1.hi - (soundF l wrong tick now).1.lo) * xa ≤ ((soundF l wrong tick now).1.hi - (soundF l wrong tick now).1.lo) * 255 := Int.mul_le_mul_of_nonneg_left hxa.2 (by omega)
    have hm3 : 0 ≤ ((lvlT t tick).hi - (lvlT t tick).lo) * xb := Int.mul_nonneg (by omega) hxb.1
    have hm4 : ((lvlT t tick).hi - (lvlT t tick).lo) * xb ≤ ((lvlT t tick).hi - (lvlT t tick).lo) * 255 := Int.mul_le_mul_of_nonneg_left hxb.2 (by omega)
    refine skip ?_
    show Code.wp _ _ _ _ _
    refine seq ?_
    refine region_draw mixed (by kernel_rfl) hS ?_
    refine qv (fun w hS => (fa38_0 rfl)) ?_
    refine qv (fun w hS => (yLdB rfl Try.isAgg3 (hS.at _) rfl)) ?_
    refine qv (fun w hS => (fa38_1 rfl)) ?_
    refine qv (fun w hS => (yLdB rfl Try.isAgg3 (hS.at _) rfl)) ?_
    refine qv (fun w hS => (fa38_0 rfl)) ?_
    refine qv (fun w hS => (yLdB rfl Try.isAgg3 (hS.at _) rfl)) ?_
    refine qv (fun w hS => (ySub rfl rfl ⟨by omega, by omega⟩)) ?_
    refine qv (fun w hS => (fa84_1 rfl)) ?_
    refine qv (fun w hS => (yLdB rfl Try.isAgg5 (hS.at _) rfl)) ?_
    refine qv (fun w hS => (yToI rfl Try.underlying5 Try.underlying3 ⟨by omega, by omega⟩)) ?_
    refine qv (fun w hS => (yMul rfl rfl ⟨by omega, by omega⟩)) ?_
    refine qv (fun w hS => (yQuoP rfl rfl ⟨by omega, by omega⟩ (by omega))) ?_
    refine qv (fun w hS => (yAdd rfl rfl ⟨by omega, by omega⟩)) ?_
    refine qv (fun w hS => (fa38_0 rfl)) ?_
    refine qv (fun w hS => (yLdB rfl Try.isAgg3 (hS.at _) rfl)) ?_
    refine qv (fun w hS => (fa38_1 rfl)) ?_
    refine qv (fun w hS => (yLdB rfl Try.isAgg3 (hS.at _) rfl)) ?_
    refine qv (fun w hS => (fa38_0 rfl)) ?_
    refine qv (fun w hS => (yLdB rfl Try.isAgg3 (hS.at _) rfl)) ?_
    refine qv (fun w hS => (ySub rfl rfl ⟨by omega, by omega⟩)) ?_
    refine qv (fun w hS => (fa84_2 rfl)) ?_
    refine qv (fun w hS => (yLdB rfl Try.isAgg5 (hS.at _) rfl)) ?_
    refine qv (fun w hS => (yToI rfl Try.underlying5 Try.underlying3 ⟨by omega, by omega⟩)) ?_
    refine qv (fun w hS => (yMul rfl rfl ⟨by omega, by omega⟩)) ?_
    refine qv (fun w hS => (yQuoP rfl rfl ⟨by omega, by omega⟩ (by omega))) ?_
    refine qv (fun w hS => (yAdd rfl rfl ⟨by omega, by omega⟩)) ?_
    refine qv (fun w hS => (yAsg rfl)) ?_
    refine qv (fun w hS => (yAsg rfl)) ?_
    clear hS; refine qnil (fun w hS => ?_)
    show Code.wp _ _ _ _ _
    refine seq ?_
    refine region ?_
    refine sv (yMove rfl) ?_
    refine sv (yEql rfl rfl) ?_
    refine sv (yMove rfl) ?_
    refine sg rfl rfl rfl (fun g => (yMove rfl)) (fun v92 g92 => ?_)
    refine sg rfl rfl rfl (fun g => (yEql (g92.1 g) rfl)) (fun v93 g93 => ?_)
    refine sv (yAnd rfl (fun hB => (g93.1 hB)) rfl) ?_
    refine sv (yMove rfl) ?_
    refine sg rfl rfl rfl (fun g => (yLdBA rfl Try.isAgg38 Try.sizeOf38 (hS.at _) rfl rfl)) (fun v96 g96 => ?_)
    refine sg rfl rfl rfl (fun g => (yMove rfl)) (fun v97 g97 => ?_)
    refine sg rfl rfl rfl (fun g => (yMove rfl)) (fun v98 g98 => ?_)
    refine sg rfl rfl rfl (fun g => (ySub (g97.1 g) (g98.1 g) ⟨by omega, by omega⟩)) (fun v99 g99 => ?_)
    refine sgc hS rfl rfl rfl Try.call29 (fun g => (.cons (g96.1 g) (.cons (g99.1 g) .nil))) (fun g => (c_has (s := ⟨(soundF l wrong tick now).1.lo - (lvlT t tick).hi, (soundF l wrong tick now).1.hi - (lvlT t tick).lo⟩))) ?_; clear hS; intro v100 w hS g100
    refine sv (yAnd rfl (fun hB => (g100.1 hB)) rfl) ?_
    refine sv (yMove rfl) ?_
    refine sg rfl rfl rfl (fun g => (fa38_1 rfl)) (fun v103 g103 => ?_)
    refine sg rfl rfl rfl (fun g => (yLdB (g103.1 g) Try.isAgg3 (hS.at _) rfl)) (fun v104 g104 => ?_)
    refine sg rfl rfl rfl (fun g => (fa38_0 rfl)) (fun v105 g105 => ?_)
    refine sg rfl rfl rfl (fun g => (yLdB (g105.1 g) Try.isAgg3 (hS.at _) rfl)) (fun v106 g106 => ?_)
    refine sg rfl rfl rfl (fun g => (ySub (g104.1 g) (g106.1 g) ⟨by omega, by omega⟩)) (fun v107 g107 => ?_)
    refine sg rfl rfl rfl (fun g => (fa38_1 rfl)) (fun v108 g108 => ?_)
    refine sg rfl rfl rfl (fun g => (yLdB (g108.1 g) Try.isAgg3 (hS.at _) rfl)) (fun v109 g109 => ?_)
    refine sg rfl rfl rfl (fun g => (fa38_0 rfl)) (fun v110 g110 => ?_)
    refine sg rfl rfl rfl (fun g => (yLdB (g110.1 g) Try.isAgg3 (hS.at _) rfl)) (fun v111 g111 => ?_)
    refine sg rfl rfl rfl (fun g => (ySub (g109.1 g) (g111.1 g) ⟨by omega, by omega⟩)) (fun v112 g112 => ?_)
    refine sg rfl rfl rfl (fun g => (fa38_1 rfl)) (fun v113 g113 => ?_)
    refine sg rfl rfl rfl (fun g => (yLdB (g113.1 g) Try.isAgg3 (hS.at _) rfl)) (fun v114 g114 => ?_)
    refine sg rfl rfl rfl (fun g => (yAdd (g112.1 g) (g114.1 g) ⟨by omega, by omega⟩)) (fun v115 g115 => ?_)
    refine sg rfl rfl rfl (fun g => (fa38_0 rfl)) (fun v116 g116 => ?_)
    refine sg rfl rfl rfl (fun g => (yLdB (g116.1 g) Try.isAgg3 (hS.at _) rfl)) (fun v117 g117 => ?_)
    refine sg rfl rfl rfl (fun g => (ySub (g115.1 g) (g117.1 g) ⟨by omega, by omega⟩)) (fun v118 g118 => ?_)
    refine sg rfl rfl rfl (fun g => (yEql (g107.1 g) (g118.1 g))) (fun v119 g119 => ?_)
    refine sv (yAnd rfl (fun hB => (g119.1 hB)) rfl) ?_
    refine sv (yMove rfl) ?_
    refine sgc hS rfl rfl rfl Try.call23 (fun g => .nil) (fun g => c_Awake) ?_; clear hS; intro v122 w hS g122
    refine sv (yAnd rfl (fun hB => (g122.1 hB)) rfl) ?_
    refine sv (yAsg rfl) ?_
    refine nil ?_
    show Code.wp _ _ _ _ _
    refine wp_ret ?_
    exact retV (res1 rfl (eqB (by rw [hS0, hLp]; simp [hasB]; omega))) hS.ext
end Go.Proofs.Ytpgmehignepidaa
/- part Wk38 -/
namespace Go.Proofs.Ytpgmehignepidaa
open Go Bx
/-- slices.IndexFunc   barrage/api.Span,barrage/api.Span  -/
theorem c_IndexFuncS {l : List Span} {p : Span → Bool} {v : Value} {g : Nat} {cl : List Value} {w0 : World} (hsl : Sl w0 2 RSpan v l) (hcall : ∀ ys w, (callFunc g ys).run Try.prog w = .ok (.enter g ys) w) (hp : ∀ x w, x ∈ l → Ext w0 w → CV Try.prog g (.agg (spanC x).toArray :: cl).toArray w (.bool (p x))) : CV Try.prog 110 #[v, .func (.func g) #[] cl.toArray] w0 (.int .i64 (idxF p l 0)) := by
  obtain ⟨a, cap, rfl, hcap, hmx, hel⟩ := hsl
  refine enter Try.func110 rfl Try.ntmps110 rfl ?_
  have hS := St.start w0
  refine seq ?_
  refine region ?_
  refine sv (yAsg rfl) ?_
  refine nil ?_
  show Code.wp _ _ _ _ _
  refine seq ?_
  refine seq ?_
  refine region ?_
  refine sv (yMove rfl) ?_
  refine sv (yLen rfl Try.underlying61) ?_
  refine sv (yMove rfl) ?_
  refine nil ?_
  show Code.wp _ _ _ _ _
  refine block ?_
  refine loop (fun f w zz => ∃ (k : Nat), f 0 = .slice a l.length cap ∧ f 1 = .func (.func g) #[] cl.toArray ∧ f 7 = .int .i64 (l.length : Int) ∧ f 8 = .int .i64 (k : Int) ∧ StX [] w0 w [] ∧ (k ≤ l.length) ∧ (idxF p l 0 = idxF p (l.drop k) k) ∧ zz = l.length - k) _ ⟨_, rfl, 0, rfl, rfl, rfl, rfl, hS, (Nat.zero_le _), (rfl), rfl⟩ ?_
  clear hS
  rintro f w _ ⟨k, h0, h1, h7, h8, hS, hk, hI, rfl⟩
  refine seq ?_
  refine region ?_
  refine sv (yLss h8 h7) ?_
  refine nil ?_
  show Code.wp _ _ _ _ _
  refine seq ?_
  refine cond rfl (fun c9 => ?_) (fun c9 => ?_)
  ·
    simp only [Bool.and_eq_true, Bool.or_eq_true, Bool.and_eq_false_iff, Bool.or_eq_false_iff, decide_eq_true_eq, decide_eq_false_iff_not, Bool.not_eq_true, Bool.not_eq_false, Bool.not_not, Bool.not_eq_eq_eq_not, Bool.not_true, Bool.not_false, Bool.false_eq_true, Bool.true_eq_false, ne_eq, Decidable.not_not, not_false_eq_true, not_true_eq_false] at c9
    refine skip ?_
    show Code.wp _ _ _ _ _
    refine seq ?_
    refine block ?_
    refine seq ?_
    refine region ?_
    refine sv (yMove h8) ?_
    refine sv (yAsg rfl) ?_
    refine nil ?_
    show Code.wp _ _ _ _ _
    refine seq ?_
    refine region ?_
    obtain ⟨x, hx, hd⟩ := drop_of (l := l) (k := k) (by omega)
    obtain ⟨b, o, cs, ha, hlen, hcs, hR⟩ := hel k (by omega)
    obtain rfl : x = l[k] := (List.getElem?_eq_some_iff.1 hx).2.symm
    obtain ⟨rfl, -⟩ := hR
    refine sv (yMove h1) ?_
    refine sv (yMove h0) ?_
    refine sv (yMove rfl) ?_
    refine sv (yIxa rfl ha rfl Try.runUnderlying61 Try.sizeOf38 (by omega) (by omega)) ?_
    refine sv (yLdA rfl Try.isAgg38 Try.sizeOf38 (hcs.ext hS.ext) rfl) ?_
    refine scallf rfl hcall (.cons rfl .nil) (hp _ _ (List.getElem_mem _) hS.ext) ?_
    rintro _ w ⟨rfl, hE⟩; replace hS := hS.step hE; clear hE
    refine nil ?_
    show Code.wp _ _ _ _ _
    refine cond rfl (fun c16 => ?_) (fun c16 => ?_)
    ·
      refine seq ?_
      refine region ?_
      refine sv (yMove rfl) ?_
      refine sv (yAsg rfl) ?_
      refine nil ?_
      show Code.wp _ _ _ _ _
      refine wp_ret (blockR (thenR (thenR (blockR (thenR ?_)))))
      exact retV (res1 rfl (by rw [hI, hd, idxF, if_pos c16]; rfl)) hS.ext
    ·
      refine skip ?_
      show Code.wp _ _ _ _ _
      refine region ?_
      refine sv (yAdd h8 rfl ⟨by omega, by omega⟩) ?_
      refine sv (yMove rfl) ?_
      refine nil ?_
      exact ⟨_, _, rfl, ⟨k + 1, h0, h1, h7, rfl, hS, (by omega), (by rw [hI, hd, idxF, if_neg (by simp [c16])]; rfl), rfl⟩, by omega⟩
  ·
    simp only [Bool.and_eq_true, Bool.or_eq_true, Bool.and_eq_false_iff, Bool.or_eq_false_iff, decide_eq_true_eq, decide_eq_false_iff_not, Bool.not_eq_true, Bool.not_eq_false, Bool.not_not, Bool.not_eq_eq_eq_not, Bool.not_true, Bool.not_false, Bool.false_eq_true, Bool.true_eq_false, ne_eq, Decidable.not_not, not_false_eq_true, not_true_eq_false] at c9
    refine exit ?_
    show Code.wp _ _ _ _ _
    refine seq ?_
    refine region ?_
    refine sv (yAsg rfl) ?_
    refine nil ?_
    show Code.wp _ _ _ _ _
    obtain rfl : k = l.length := by omega
    refine wp_ret ?_
    exact retV (res1 rfl (by rw [hI, List.drop_length]; rfl)) hS.ext
/-- slices.ContainsFunc   barrage/api.Span,barrage/api.Span  -/
theorem c_ContainsFuncS {l : List Span} {p : Span → Bool} {v : Value} {g : Nat} {cl : List Value} {w0 : World} (hsl : Sl w0 2 RSpan v l) (hcall : ∀ ys w, (callFunc g ys).run Try.prog w = .ok (.enter g ys) w) (hp : ∀ x w, x ∈ l → Ext w0 w → CV Try.prog g (.agg (spanC x).toArray :: cl).toArray w (.bool (p x))) : CV Try.prog 88 #[v, .func (.func g) #[] cl.toArray] w0 (.bool (l.any p)) := by
  refine enter Try.func88 rfl Try.ntmps88 rfl ?_
  have hS := St.start w0
  refine seq ?_
  refine region ?_
  refine sv (yAsg rfl) ?_
  refine nil ?_
  show Code.wp _ _ _ _ _
  refine seq ?_
  refine region ?_
  refine sv (yMove rfl) ?_
  refine sv (yMove rfl) ?_
  refine scall Try.call110 (.cons rfl (.cons rfl .nil)) (c_IndexFuncS hsl hcall hp) ?_
  rintro _ w ⟨rfl, hE⟩; replace hS := hS.step hE; clear hE
  refine sv (yGeq rfl rfl) ?_
  refine sv (yAsg rfl) ?_
  refine nil ?_
  show Code.wp _ _ _ _ _
  refine wp_ret ?_
  exact retV (res1 rfl (by rw [← idxF_any p l 0 (Int.le_refl 0)]; rfl)) hS.ext
end Go.Proofs.Ytpgmehignepidaa
/- part Wk39 -/
namespace Go.Proofs.Ytpgmehignepidaa
open Go Bx
/-- barrage/tide.Fit closure 1 -/
theorem c_Fit1 {s : Span} {w0 : World} : CV Try.prog 87 #[.agg (spanC s).toArray] w0 (.bool (noneS s)) := by
  refine enter Try.func87 rfl Try.ntmps87 rfl ?_
  have hS := St.start w0
  refine seq ?_
  refine region ?_
  refine sbox hS rfl rfl ?_; clear hS; intro b1 w hS
  refine sv (yAsg rfl) ?_
  refine nil ?_
  show Code.wp _ _ _ _ _
  refine seq ?_
  refine region ?_
  refine sv (fa38_1 rfl) ?_
  refine sv (yLdB rfl Try.isAgg3 (hS.at _) rfl) ?_
  refine scall Try.call54 (.cons rfl (.cons rfl (.cons rfl .nil))) c_out ?_
  rintro _ w ⟨rfl, hE⟩; replace hS := hS.step hE; clear hE
  refine sv (yMove rfl) ?_
  refine sg rfl rfl rfl (fun g => (fa38_0 rfl)) (fun v7 g7 => ?_)
  refine sg rfl rfl rfl (fun g => (yLdB (g7.1 g) Try.isAgg3 (hS.at _) rfl)) (fun v8 g8 => ?_)
  refine sg rfl rfl rfl (fun g => (fa38_1 rfl)) (fun v9 g9 => ?_)
  refine sg rfl rfl rfl (fun g => (yLdB (g9.1 g) Try.isAgg3 (hS.at _) rfl)) (fun v10 g10 => ?_)
  refine sgc hS rfl rfl rfl Try.call54 (fun g => (.cons (g8.1 g) (.cons rfl (.cons (g10.1 g) .nil)))) (fun g => c_out) ?_; clear hS; intro v11 w hS g11
  refine sv (yOr rfl rfl (fun hB => (g11.1 hB))) ?_
  refine sv (yAsg rfl) ?_
  refine nil ?_
  show Code.wp _ _ _ _ _
  refine wp_ret ?_
  exact retV (res1 rfl rfl) hS.ext
set_option maxHeartbeats 2000000 in
/-- barrage/tide.Fit -/
theorem c_Fit {g : Gauge} {cs : List Value} {q fr : Int} {ks : List Span} {v : Value} {w0 : World} (hg : RGauge w0 cs g) (hk : Sl w0 2 RSpan v ks) (hq : I64 q) (hf : I64 fr) : CV Try.prog 43 #[.agg cs.toArray, .int .i64 q, .int .i64 fr, v] w0 (.tuple #[.agg (spanC (fitF g q fr ks).1).toArray, .int .i64 (fitF g q fr ks).2]) := by
  obtain ⟨dv, rv, rfl, hnm, hge, hgr, hsd, hsr⟩ := id hg
  obtain ⟨a, cap, rfl, hcap, hmx, hel⟩ := id hsd
  obtain ⟨a2, cap2, rfl, hcap2, hmx2, hel2⟩ := id hsr
  obtain ⟨ak, capk, rfl, hcapk, hmxk, helk⟩ := id hk
  refine enter Try.func43 rfl Try.ntmps43 rfl ?_
  have hS := St.start w0
  refine seq ?_
  refine region ?_
  refine sbox hS rfl rfl ?_; clear hS; intro b4 w hS
  refine salloc hS Try.zeroValue38 rfl ?_; clear hS; intro b8 w hS
  refine sv (yAsg rfl) ?_
  refine nil ?_
  show Code.wp _ _ _ _ _
  refine seq ?_
  refine region ?_
  refine sv (yLdBA rfl Try.isAgg34 Try.sizeOf34 (hS.at _) rfl rfl) ?_
  refine scall Try.call24 (.cons rfl .nil) (c_CheckGauge (hg.ext hS.ext)) ?_
  rintro _ w ⟨rfl, hE⟩; replace hS := hS.step hE; clear hE
  refine sv (yMove rfl) ?_
  refine sv (yExt rfl rfl) ?_
  refine sv (yExt rfl rfl) ?_
  refine sv (yExt rfl rfl) ?_
  refine sv (yAsg rfl) ?_
  refine sv (yAsg rfl) ?_
  refine sv (yAsg rfl) ?_
  refine nil ?_
  show Code.wp _ _ _ _ _
  refine seq ?_
  refine block ?_
  refine seq ?_
  refine region ?_
  refine sv (yMove rfl) ?_
  refine sv (yNeq rfl rfl) ?_
  refine sv (yAsg rfl) ?_
  refine nil ?_
  show Code.wp _ _ _ _ _
  refine cond rfl (fun c24 => ?_) (fun c24 => ?_)
  ·
    simp only [Bool.and_eq_true, Bool.or_eq_true, Bool.and_eq_false_iff, Bool.or_eq_false_iff, decide_eq_true_eq, decide_eq_false_iff_not, Bool.not_eq_true, Bool.not_eq_false, Bool.not_not, Bool.not_eq_eq_eq_not, Bool.not_true, Bool.not_false, Bool.false_eq_true, Bool.true_eq_false, ne_eq, Decidable.not_not, not_false_eq_true, not_true_eq_false] at c24
    refine seq ?_
    refine region ?_
    refine sv (yBuild Try.zeroValue38 rfl pl38 .nil rfl) ?_
    refine sv (yMove rfl) ?_
    refine sst hS rfl rfl Try.sizeOf38 rfl rfl rfl rfl ?_; clear hS; intro w hS
    refine sv (yAsg rfl) ?_
    refine nil ?_
    show Code.wp _ _ _ _ _
    have hfin := fitF_e (fitE_1 (q := q) (fr := fr) (ks := ks) c24) c24
    refine wp_ret (blockR (thenR ?_))
    exact retV (resV2 rfl (rc rfl Try.isAgg38 Try.sizeOf38 (hS.at _) (by rw [hfin]; rfl) rfl) (rt (eqI (by rw [hfin])))) hS.ext
  ·
    simp only [Bool.and_eq_true, Bool.or_eq_true, Bool.and_eq_false_iff, Bool.or_eq_false_iff, decide_eq_true_eq, decide_eq_false_iff_not, Bool.not_eq_true, Bool.not_eq_false, Bool.not_not, Bool.not_eq_eq_eq_not, Bool.not_true, Bool.not_false, Bool.false_eq_true, Bool.true_eq_false, ne_eq, Decidable.not_not, not_false_eq_true, not_true_eq_false] at c24
    have hok := gaugeOk_of c24
    have hdl := hok.len
    have hrl := hok.rlen
    have hge := hok.err
    refine seq ?_
    refine region ?_
    refine sv (yMove rfl) ?_
    refine sv (fa34_3 rfl) ?_
    refine sv (yLdB rfl Try.isAgg31 (hS.at _) rfl) ?_
    refine sv (yLen rfl Try.underlying31) ?_
    refine sv (ySub rfl rfl ⟨by omega, by omega⟩) ?_
    refine scall Try.call54 (.cons rfl (.cons rfl (.cons rfl .nil))) c_out ?_
    rintro _ w ⟨rfl, hE⟩; replace hS := hS.step hE; clear hE
    refine sv (yAsg rfl) ?_
    refine nil ?_
    show Code.wp _ _ _ _ _
    refine cond rfl (fun c29 => ?_) (fun c29 => ?_)
    ·
      refine seq ?_
      refine region ?_
      refine sv (yBuild Try.zeroValue38 rfl pl38 .nil rfl) ?_
      refine sst hS rfl rfl Try.sizeOf38 rfl rfl rfl rfl ?_; clear hS; intro w hS
      refine sv (yAsg rfl) ?_
      refine nil ?_
      show Code.wp _ _ _ _ _
      have hfin := fitF_e (fitE_2 (fr := fr) (ks := ks) c24 c29) (by decide)
      refine wp_ret (blockR (thenR ?_))
      exact retV (resV2 rfl (rc rfl Try.isAgg38 Try.sizeOf38 (hS.at _) (by rw [hfin]; rfl) rfl) (rt (eqI (by rw [hfin])))) hS.ext
    ·
      have hqb := outB_false.1 c29
      obtain ⟨qn, rfl⟩ := Int.eq_ofNat_of_zero_le hqb.1
      refine skip ?_
      show Code.wp _ _ _ _ _
      refine seq ?_
      refine seq ?_
      refine region ?_
      refine sv (yMove rfl) ?_
      refine sv (yMove rfl) ?_
      refine sv (yLen rfl Try.underlying61) ?_
      refine scall Try.call74 (.cons rfl (.cons rfl .nil)) c_some ?_
      rintro _ w ⟨rfl, hE⟩; replace hS := hS.step hE; clear hE
      refine sv (yAsg rfl) ?_
      refine nil ?_
      show Code.wp _ _ _ _ _
      refine seq ?_
      refine region ?_
      refine sv (yMove rfl) ?_
      refine sv (yNeq rfl rfl) ?_
      refine nil ?_
      show Code.wp _ _ _ _ _
      refine cond rfl (fun c42 => ?_) (fun c42 => ?_)
      ·
        simp only [Bool.and_eq_true, Bool.or_eq_true, Bool.and_eq_false_iff, Bool.or_eq_false_iff, decide_eq_true_eq, decide_eq_false_iff_not, Bool.not_eq_true, Bool.not_eq_false, Bool.not_not, Bool.not_eq_eq_eq_not, Bool.not_true, Bool.not_false, Bool.false_eq_true, Bool.true_eq_false, ne_eq, Decidable.not_not, not_false_eq_true, not_true_eq_false] at c42
        refine seq ?_
        refine region ?_
        refine sv (yBuild Try.zeroValue38 rfl pl38 .nil rfl) ?_
        refine sv (yMove rfl) ?_
        refine sst hS rfl rfl Try.sizeOf38 rfl rfl rfl rfl ?_; clear hS; intro w hS
        refine sv (yAsg rfl) ?_
        refine nil ?_
        show Code.wp _ _ _ _ _
        have hfin := fitF_e (fitE_3 c24 c29 c42) c42
        refine wp_ret (thenR ?_)
        exact retV (resV2 rfl (rc rfl Try.isAgg38 Try.sizeOf38 (hS.at _) (by rw [hfin]; rfl) rfl) (rt (eqI (by rw [hfin])))) hS.ext
      ·
        simp only [Bool.and_eq_true, Bool.or_eq_true, Bool.and_eq_false_iff, Bool.or_eq_false_iff, decide_eq_true_eq, decide_eq_false_iff_not, Bool.not_eq_true, Bool.not_eq_false, Bool.not_not, Bool.not_eq_eq_eq_not, Bool.not_true, Bool.not_false, Bool.false_eq_true, Bool.true_eq_false, ne_eq, Decidable.not_not, not_false_eq_true, not_true_eq_false] at c42
        have hkn := (someE_zero c42).1
        refine skip ?_
        show Code.wp _ _ _ _ _
        refine seq ?_
        refine region ?_
        refine sv (yAsg rfl) ?_
        refine nil ?_
        show Code.wp _ _ _ _ _
        refine seq ?_
        refine seq ?_
        refine region ?_
        refine sv (yMove rfl) ?_
        refine sv (yMove rfl) ?_
        refine scall Try.call88 (.cons rfl (.cons rfl .nil)) (c_ContainsFuncS (p := noneS) (cl := []) (hk.ext RSpan.stays hS.ext) Try.call87 (fun x w _ _ => c_Fit1)) ?_
        rintro _ w ⟨rfl, hE⟩; replace hS := hS.step hE; clear hE
        refine nil ?_
        show Code.wp _ _ _ _ _
        refine cond rfl (fun c47 => ?_) (fun c47 => ?_)
        ·
          refine seq ?_
          refine region ?_
          refine sv (yBuild Try.zeroValue38 rfl pl38 .nil rfl) ?_
          refine sst hS rfl rfl Try.sizeOf38 rfl rfl rfl rfl ?_; clear hS; intro w hS
          refine sv (yAsg rfl) ?_
          refine nil ?_
          show Code.wp _ _ _ _ _
          have hfin : fitF g qn fr ks = (⟨0, 0⟩, 2) := fitF_e (by rw [fitE_4 c24 c29 c42, if_pos c47]) (by decide)
          refine wp_ret (thenR ?_)
          exact retV (resV2 rfl (rc rfl Try.isAgg38 Try.sizeOf38 (hS.at _) (by rw [hfin]; rfl) rfl) (rt (eqI (by rw [hfin])))) hS.ext
        ·
          have hE0 : fitE g qn fr ks = 0 := by rw [fitE_4 c24 c29 c42, if_neg (by rw [c47]; decide)]
          have hno : ∀ s ∈ ks, noneS s = false := fun s hs => by
            cases hn : noneS s with
            | false => rfl
            | true => exact absurd (List.any_eq_true.2 ⟨s, hs, hn⟩) (by rw [c47]; decide)
          obtain ⟨d, hx, hd⟩ := drop_of (l := g.datums) (k := qn) (by omega)
          obtain ⟨b, o, cs, ha, hlen, hcs, hR⟩ := hel (qn) (by omega)
          obtain rfl : d = g.datums[qn] := (List.getElem?_eq_some_iff.1 hx).2.symm
          generalize g.datums[qn] = d at hx hd hR
          obtain ⟨rfl, hd1, hd2, hd3⟩ := hR
          have hfi : fitI g qn fr ks = fitS g qn fr ks d.shift g.readings := by unfold fitI; rw [Int.toNat_natCast, getD_hit hx]
          refine skip ?_
          show Code.wp _ _ _ _ _
          refine seq ?_
          refine region ?_
          refine sv (fa34_3 rfl) ?_
          refine sv (yLdB rfl Try.isAgg31 (hS.at _) rfl) ?_
          refine sv (yMove rfl) ?_
          refine sv (yIxa rfl ha rfl Try.runUnderlying31 Try.sizeOf78 (by omega) (by omega)) ?_
          refine sv (fa78_1 rfl) ?_
          refine sv (yLdA rfl Try.isAgg38 Try.sizeOf38 ((hcs.mid (xs := spanC d.shift) 1 rfl).ext hS.ext) rfl) ?_
          refine sv (yBuild Try.zeroValue127 rfl pl127 (.cons rfl rfl .nil) rfl) ?_
          refine salloc hS Try.zeroValue127 rfl ?_; clear hS; intro b14 w hS
          refine sst hS rfl rfl Try.sizeOf127 rfl rfl rfl rfl ?_; clear hS; intro w hS
          refine nil ?_
          show Code.wp _ _ _ _ _
          refine seq ?_
          refine seq ?_
          refine region ?_
          refine sv (fa34_4 rfl) ?_
          refine sv (yLdB rfl Try.isAgg32 (hS.at _) rfl) ?_
          refine sv (yLen rfl Try.underlying32) ?_
          refine sv (yMove rfl) ?_
          refine nil ?_
          show Code.wp _ _ _ _ _
          refine block ?_
          refine loop (fun f w zz => ∃ (k : Nat), f 1 = .int .i64 (qn : Int) ∧ f 2 = .int .i64 fr ∧ f 3 = .slice ak ks.length capk ∧ f 4 = .pointer (some ⟨b4, 0, none⟩) ∧ f 8 = .pointer (some ⟨b8, 0, none⟩) ∧ f 14 = .pointer (some ⟨b14, 0, none⟩) ∧ f 57 = .slice a2 g.readings.length cap2 ∧ f 58 = .int .i64 (g.readings.length : Int) ∧ f 59 = .int .i64 (k : Int) ∧ StX [] w0 w [blk b14 (spanC (fitS g qn fr ks d.shift (g.readings.take k))) 127, blk b8 [.int .i64 0, .int .i64 0] 38, blk b4 [.string g.name, .int .i64 g.err, .int .i64 g.rate, .slice a g.datums.length cap, .slice a2 g.readings.length cap2] 34] ∧ (k ≤ g.readings.length) ∧ zz = g.readings.length - k) _ ⟨_, rfl, 0, rfl, rfl, rfl, rfl, rfl, rfl, rfl, rfl, rfl, hS, (Nat.zero_le _), rfl⟩ ?_
          clear hS
          rintro f w _ ⟨k, h1, h2, h3, h4, h8, h14, h57, h58, h59, hS, hkk, rfl⟩
          refine seq ?_
          refine region ?_
          refine sv (yLss h59 h58) ?_
          refine nil ?_
          show Code.wp _ _ _ _ _
          refine seq ?_
          refine cond rfl (fun c60 => ?_) (fun c60 => ?_)
          ·
            simp only [Bool.and_eq_true, Bool.or_eq_true, Bool.and_eq_false_iff, Bool.or_eq_false_iff, decide_eq_true_eq, decide_eq_false_iff_not, Bool.not_eq_true, Bool.not_eq_false, Bool.not_not, Bool.not_eq_eq_eq_not, Bool.not_true, Bool.not_false, Bool.false_eq_true, Bool.true_eq_false, ne_eq, Decidable.not_not, not_false_eq_true, not_true_eq_false] at c60
            obtain ⟨r, hxr, hdr⟩ := drop_of (l := g.readings) (k := k) (by omega)
            obtain ⟨br, or, csr, har, hlenr, hcsr, hRr⟩ := hel2 (k) (by omega)
            obtain rfl : r = g.readings[k] := (List.getElem?_eq_some_iff.1 hxr).2.symm
            generalize g.readings[k] = r at hxr hdr hRr
            obtain ⟨rfl, hr1, hr2⟩ := hRr
            have hro := hok.reads r (List.mem_of_getElem? hxr)
            have hrt := hro.tick
            have hrv := hro.value
            refine skip ?_
            show Code.wp _ _ _ _ _
            refine seq ?_
            refine block ?_
            refine seq ?_
            refine region ?_
            refine sv (yIxa h57 har h59 Try.runUnderlying32 Try.sizeOf103 (by omega) (by omega)) ?_
            refine sv (yLdA rfl Try.isAgg103 Try.sizeOf103 (hcsr.ext hS.ext) rfl) ?_
            refine salloc hS Try.zeroValue103 rfl ?_; clear hS; intro b16 w hS
            refine sst hS rfl rfl Try.sizeOf103 rfl rfl rfl rfl ?_; clear hS; intro w hS
            refine nil ?_
            show Code.wp _ _ _ _ _
            refine seq ?_
            refine region ?_
            refine sv (fa103_0 rfl) ?_
            refine sv (yLdB rfl Try.isAgg3 (hS.at _) rfl) ?_
            refine sv (yMove h2) ?_
            refine sv (ySubW rfl rfl) ?_
            refine sv (yAsg rfl) ?_
            refine nil ?_
            show Code.wp _ _ _ _ _
            refine seq ?_
            refine region ?_
            refine sv (yLdBA h4 Try.isAgg34 Try.sizeOf34 (hS.at _) rfl rfl) ?_
            refine sv (yLdBA rfl Try.isAgg103 Try.sizeOf103 (hS.at _) rfl rfl) ?_
            refine scall Try.call89 (.cons rfl (.cons rfl .nil)) (c_datum (r := r) (hg.ext hS.ext) hok hro.tick.1) ?_
            rintro _ w ⟨rfl, hE⟩; replace hS := hS.step hE; clear hE
            refine sv (yMove h1) ?_
            refine sv (yEql rfl rfl) ?_
            refine sv (yMove rfl) ?_
            refine sg rfl rfl rfl (fun g => (yMove rfl)) (fun v73 g73 => ?_)
            refine sg rfl rfl rfl (fun g => (yMove h3)) (fun v74 g74 => ?_)
            refine sg rfl rfl rfl (fun g => (yLen (g74.1 g) Try.underlying61)) (fun v75 g75 => ?_)
            refine sg rfl rfl rfl (fun g => (ySub (g75.1 g) rfl ⟨by omega, by omega⟩)) (fun v76 g76 => ?_)
            refine sgc hS rfl rfl rfl Try.call54 (fun g => (.cons (g73.1 g) (.cons rfl (.cons (g76.1 g) .nil)))) (fun g => c_out) ?_; clear hS; intro v77 w hS g77
            refine sg rfl rfl rfl (fun g => (yNot (g77.1 g))) (fun v78 g78 => ?_)
            refine sv (yAnd rfl (fun hB => (g78.1 hB)) rfl) ?_
            refine nil ?_
            show Code.wp _ _ _ _ _
            refine cond rfl (fun c79 => ?_) (fun c79 => ?_)
            ·
              change fitB g qn fr ks.length r = _ at c79
              have c79b := c79
              simp only [fitB, Bool.and_eq_true, Bool.not_eq_true', outB_false, decide_eq_true_eq] at c79b
              obtain ⟨j, hj⟩ := Int.eq_ofNat_of_zero_le c79b.2.1
              obtain ⟨s, hxs, hds⟩ := drop_of (l := ks) (k := j) (by omega)
              obtain ⟨bs, os, css, has, hlens, hcss, hRs⟩ := helk (j) (by omega)
              obtain rfl : s = ks[j] := (List.getElem?_eq_some_iff.1 hxs).2.symm
              generalize ks[j] = s at hxs hds hRs
              obtain ⟨rfl, hs1, hs2⟩ := hRs
              have hsb := noneS_iff.1 (hno s (List.mem_of_getElem? hxs))
              refine region_tail mixed 9 (by kernel_rfl) hS ?_
              refine qv (fun w hS => (fa103_1 rfl)) ?_
              refine qv (fun w hS => (yLdB rfl Try.isAgg3 (hS.at _) rfl)) ?_
              refine qv (fun w hS => (fa34_1 h4)) ?_
              refine qv (fun w hS => (yLdB rfl Try.isAgg3 (hS.at _) rfl)) ?_
              refine qv (fun w hS => (yMove h3)) ?_
              refine qv (fun w hS => (yMove rfl)) ?_
              refine qv (fun w hS => (yIxa rfl has (Eq.trans (b := Value.int .i64 (W64 (r.tick - fr))) rfl (by rw [hj])) Try.runUnderlying61 Try.sizeOf38 (by omega) (by omega))) ?_
              refine qv (fun w hS => (yLdA rfl Try.isAgg38 Try.sizeOf38 (hcss.ext hS.ext) rfl)) ?_
              refine qcall Try.call91 (.cons rfl (.cons rfl (.cons rfl .nil))) (fun w hS => (c_around (s := s) ⟨by omega, by omega⟩ ⟨by omega, by omega⟩ ⟨⟨by omega, by omega⟩, ⟨by omega, by omega⟩⟩)) ?_
              clear hS; refine qtl (fun w hS => ?_)
              refine scall Try.call90 (.cons h14 (.cons rfl .nil)) (c_cut (hS.at b14)) ?_; rintro _ w ⟨rfl, hput⟩; replace hS := hS.put hput; clear hput
              refine nil ?_
              show Code.wp _ _ _ _ _
              refine region ?_
              refine sv (yAdd h59 rfl ⟨by omega, by omega⟩) ?_
              refine sv (yMove rfl) ?_
              refine nil ?_
              exact ⟨_, _, rfl, ⟨k + 1, h1, h2, h3, h4, h8, h14, h57, h58, rfl, (by rw [take_snoc hxr, fitS_snoc, fitC, if_pos c79, hj, Int.toNat_natCast, getD_hit hxs]; exact hS.sub (.cons _ (List.Sublist.refl _))), (by omega), rfl⟩, by omega⟩
            ·
              change fitB g qn fr ks.length r = _ at c79
              refine skip ?_
              show Code.wp _ _ _ _ _
              refine region ?_
              refine sv (yAdd h59 rfl ⟨by omega, by omega⟩) ?_
              refine sv (yMove rfl) ?_
              refine nil ?_
              exact ⟨_, _, rfl, ⟨k + 1, h1, h2, h3, h4, h8, h14, h57, h58, rfl, (by rw [take_snoc hxr, fitS_snoc, fitC, if_neg (by rw [c79]; decide)]; exact hS.sub (.cons _ (List.Sublist.refl _))), (by omega), rfl⟩, by omega⟩
          ·
            simp only [Bool.and_eq_true, Bool.or_eq_true, Bool.and_eq_false_iff, Bool.or_eq_false_iff, decide_eq_true_eq, decide_eq_false_iff_not, Bool.not_eq_true, Bool.not_eq_false, Bool.not_not, Bool.not_eq_eq_eq_not, Bool.not_true, Bool.not_false, Bool.false_eq_true, Bool.true_eq_false, ne_eq, Decidable.not_not, not_false_eq_true, not_true_eq_false] at c60
            obtain rfl : k = g.readings.length := by omega
            rw [List.take_length] at hS
            refine exit ?_
            show Code.wp _ _ _ _ _
            refine seq ?_
            refine seq ?_
            refine region ?_
            refine sv (yLdBA h14 Try.isAgg127 Try.sizeOf127 (hS.at _) rfl rfl) ?_
            refine scall Try.call92 (.cons rfl .nil) c_empty ?_
            rintro _ w ⟨rfl, hE⟩; replace hS := hS.step hE; clear hE
            refine nil ?_
            show Code.wp _ _ _ _ _
            refine cond rfl (fun c92 => ?_) (fun c92 => ?_)
            ·
              simp only [Bool.and_eq_true, Bool.or_eq_true, Bool.and_eq_false_iff, Bool.or_eq_false_iff, decide_eq_true_eq, decide_eq_false_iff_not, Bool.not_eq_true, Bool.not_eq_false, Bool.not_not, Bool.not_eq_eq_eq_not, Bool.not_true, Bool.not_false, Bool.false_eq_true, Bool.true_eq_false, ne_eq, Decidable.not_not, not_false_eq_true, not_true_eq_false] at c92
              refine seq ?_
              refine region ?_
              refine sv (yBuild Try.zeroValue38 rfl pl38 .nil rfl) ?_
              refine sst hS h8 rfl Try.sizeOf38 rfl rfl rfl rfl ?_; clear hS; intro w hS
              refine sv (yAsg rfl) ?_
              refine nil ?_
              show Code.wp _ _ _ _ _
              have hfin : fitF g qn fr ks = (⟨0, 0⟩, 9) := by unfold fitF; rw [if_neg (fun h => h hE0), hfi, if_pos c92]
              refine wp_ret (thenR ?_)
              exact retV (resV2 rfl (rc h8 Try.isAgg38 Try.sizeOf38 (hS.at _) (by rw [hfin]; rfl) rfl) (rt (eqI (by rw [hfin])))) hS.ext
            ·
              simp only [Bool.and_eq_true, Bool.or_eq_true, Bool.and_eq_false_iff, Bool.or_eq_false_iff, decide_eq_true_eq, decide_eq_false_iff_not, Bool.not_eq_true, Bool.not_eq_false, Bool.not_not, Bool.not_eq_eq_eq_not, Bool.not_true, Bool.not_false, Bool.false_eq_true, Bool.true_eq_false, ne_eq, Decidable.not_not, not_false_eq_true, not_true_eq_false] at c92
              refine skip ?_
              show Code.wp _ _ _ _ _
              refine seq ?_
              refine region ?_
              refine sv (fa127_0 h14) ?_
              refine sv (yLdBA rfl Try.isAgg38 Try.sizeOf38 (hS.at _) rfl rfl) ?_
              refine sst hS h8 rfl Try.sizeOf38 rfl rfl rfl rfl ?_; clear hS; intro w hS
              refine sv (yAsg rfl) ?_
              refine nil ?_
              show Code.wp _ _ _ _ _
              have hfin : fitF g qn fr ks = (fitS g qn fr ks d.shift g.readings, 0) := by unfold fitF; rw [if_neg (fun h => h hE0), hfi, if_neg (by omega)]
              refine wp_ret ?_
              exact retV (resV2 rfl (rc h8 Try.isAgg38 Try.sizeOf38 (hS.at _) (by rw [hfin]; rfl) rfl) (rt (eqI (by rw [hfin])))) hS.ext
end Go.Proofs.Ytpgmehignepidaa
/- part Wk40 -/
namespace Go.Proofs.Ytpgmehignepidaa
open Go Bx
set_option maxHeartbeats 4000000 in
/-- barrage/barragelaw01.TideFitted -/
theorem w_TideFitted {g : Gauge} {cs xs ps : List Value} {x : Truth} {by_ : Int × Int} {w0 : World} (hg : RGauge w0 cs g) (hx : RTruth w0 xs x) (ha : RU2 w0 ps by_) : CV Try.prog 13 #[.agg cs.toArray, .agg xs.toArray, .agg ps.toArray] w0 (.bool true) := by
  obtain ⟨dv, rv, rfl, hnm, hge, hgr, hsd, hsr⟩ := id hg
  obtain ⟨a, cap, rfl, hcap, hmx, hel⟩ := id hsd
  obtain ⟨a2, cap2, rfl, hcap2, hmx2, hel2⟩ := id hsr
  obtain ⟨mv, gv, sv, ev, rfl, hxs, hxl, hmv, hgv, hsv, hev⟩ := id hx
  obtain ⟨am, capm, rfl, hcapm, hmxm, helm⟩ := id hmv
  obtain ⟨ag, capg, rfl, hcapg, hmxg, helg⟩ := id hgv
  obtain ⟨ah, caph, rfl, hcaph, hmxh, helh⟩ := id hsv
  obtain ⟨ae, cape, rfl, hcape, hmxe, hele⟩ := id hev
  obtain ⟨p0, p1⟩ := by_
  have hps : ps = [.int .u8 p0, .int .u8 p1] := ha.1
  subst hps
  obtain ⟨_, hp0, hp1⟩ := ha
  simp only [] at hp0 hp1
  have hsh := shares_of hx
  refine enter Try.func13 rfl Try.ntmps13 rfl ?_
  have hS := St.start w0
  refine seq ?_
  refine region ?_
  refine sbox hS rfl rfl ?_; clear hS; intro b3 w hS
  refine sbox hS rfl rfl ?_; clear hS; intro b4 w hS
  refine sbox hS rfl rfl ?_; clear hS; intro b5 w hS
  refine sv (yAsg rfl) ?_
  refine nil ?_
  show Code.wp _ _ _ _ _
  refine seq ?_
  refine region ?_
  refine sv (yLdBA rfl Try.isAgg34 Try.sizeOf34 (hS.at _) rfl rfl) ?_
  refine sv (yLdBA rfl Try.isAgg53 Try.sizeOf53 (hS.at _) rfl rfl) ?_
  refine scall Try.call31 (.cons rfl (.cons rfl .nil)) (c_made2 hg hx hS.ext) ?_
  rintro _ w ⟨lvv, l, rv, rcs, K, ad, nd, cd, ar, nr, cr, y, B, rfl, hB, hRG, hM⟩; replace hS := hS.call2 hM; clear hM; obtain ⟨al, capl, rfl⟩ := row_shape (hS.row lvv)
  refine sv (yMove rfl) ?_
  refine sv (yExt rfl rfl) ?_
  refine sv (yExt rfl rfl) ?_
  refine sv (yExt rfl rfl) ?_
  refine salloc hS Try.zeroValue34 rfl ?_; clear hS; intro b8 w hS
  refine sv (yAsg rfl) ?_
  refine sst hS rfl rfl Try.sizeOf34 rfl rfl rfl rfl ?_; clear hS; intro w hS
  refine sv (yAsg rfl) ?_
  refine nil ?_
  show Code.wp _ _ _ _ _
  refine seq ?_
  refine region ?_
  refine sv (yLdBA rfl Try.isAgg34 Try.sizeOf34 (hS.at _) rfl rfl) ?_
  refine scall Try.call24 (.cons rfl .nil) (c_CheckGauge (hRG _ hS.ext (hS.row rv))) ?_
  rintro _ w ⟨rfl, hE⟩; replace hS := hS.step hE; clear hE
  refine sv (yMove rfl) ?_
  refine sv (yExt rfl rfl) ?_
  refine sv (yExt rfl rfl) ?_
  refine sv (yExt rfl rfl) ?_
  refine sv (yAsg rfl) ?_
  refine sv (yAsg rfl) ?_
  refine sv (yAsg rfl) ?_
  refine nil ?_
  show Code.wp _ _ _ _ _
  refine seq ?_
  refine seq ?_
  refine region ?_
  refine sv (yMove rfl) ?_
  refine sv (yNot rfl) ?_
  refine sv (yMove rfl) ?_
  refine sg rfl rfl rfl (fun g => (yMove rfl)) (fun v39 g39 => ?_)
  refine sg rfl rfl rfl (fun g => (yNeq (g39.1 g) rfl)) (fun v40 g40 => ?_)
  refine sv (yOr rfl rfl (fun hB => (g40.1 hB))) ?_
  refine sv (yMove rfl) ?_
  refine sg rfl rfl rfl (fun g => (yMove rfl)) (fun v43 g43 => ?_)
  refine sg rfl rfl rfl (fun g => (yLen (g43.1 g) Try.underlying44)) (fun v44 g44 => ?_)
  refine sg rfl rfl rfl (fun g => (yGtr (g44.1 g) rfl)) (fun v45 g45 => ?_)
  refine sv (yOr rfl rfl (fun hB => (g45.1 hB))) ?_
  refine sv (yMove rfl) ?_
  refine sg rfl rfl rfl (fun g => (fa34_3 rfl)) (fun v48 g48 => ?_)
  refine sg rfl rfl rfl (fun g => (yLdB (g48.1 g) Try.isAgg31 (hS.at _) rfl)) (fun v49 g49 => ?_)
  refine sg rfl rfl rfl (fun g => (yLen (g49.1 g) Try.underlying31)) (fun v50 g50 => ?_)
  refine sg rfl rfl rfl (fun g => (yEql (g50.1 g) rfl)) (fun v51 g51 => ?_)
  refine sv (yOr rfl rfl (fun hB => (g51.1 hB))) ?_
  refine nil ?_
  show Code.wp _ _ _ _ _
  refine cond rfl (fun c52 => ?_) (fun c52 => ?_)
  ·
    simp only [Bool.and_eq_true, Bool.or_eq_true, Bool.and_eq_false_iff, Bool.or_eq_false_iff, decide_eq_true_eq, decide_eq_false_iff_not, Bool.not_eq_true, Bool.not_eq_false, Bool.not_not, Bool.not_eq_eq_eq_not, Bool.not_true, Bool.not_false, Bool.false_eq_true, Bool.true_eq_false, ne_eq, Decidable.not_not, not_false_eq_true, not_true_eq_false] at c52
    refine seq ?_
    refine region ?_
    refine scall Try.call23 .nil c_Awake ?_
    rintro _ w ⟨rfl, hE⟩; replace hS := hS.step hE; clear hE
    refine sv (yAsg rfl) ?_
    refine nil ?_
    show Code.wp _ _ _ _ _
    refine wp_ret (thenR ?_)
    exact retV (res1 rfl rfl) hS.ext
  ·
    simp only [Bool.and_eq_true, Bool.or_eq_true, Bool.and_eq_false_iff, Bool.or_eq_false_iff, decide_eq_true_eq, decide_eq_false_iff_not, Bool.not_eq_true, Bool.not_eq_false, Bool.not_not, Bool.not_eq_eq_eq_not, Bool.not_true, Bool.not_false, Bool.false_eq_true, Bool.true_eq_false, ne_eq, Decidable.not_not, not_false_eq_true, not_true_eq_false] at c52
    obtain ⟨⟨⟨hb, hy⟩, hl0⟩, hnd0⟩ := c52
    obtain ⟨hMd, hlE⟩ := hB hb
    have htr := hMd.tr
    have hst := htr.start
    have hml := htr.len
    have hll : l.length = x.moves.length + 1 := by rw [hlE, lvsK_len]
    have hye : y.rate = g.rate := by rw [hMd.y_eq]
    have hyd : y.datums = g.datums := by rw [hMd.y_eq]
    have hok := gaugeOk_of hy
    have hdl := hok.len
    have hlb : ∀ i, Bd (lvS g.rate x.level x.moves i) (-20000) 20000 := fun i => lvS_bd htr.level x.moves i
    refine skip ?_
    show Code.wp _ _ _ _ _
    refine seq ?_
    refine region ?_
    refine sv (yAsg rfl) ?_
    refine sv (yAsg rfl) ?_
    refine nil ?_
    show Code.wp _ _ _ _ _
    refine seq ?_
    refine seq ?_
    refine region ?_
    refine sv (yAsg rfl) ?_
    refine nil ?_
    show Code.wp _ _ _ _ _
    refine block ?_
    refine loop (fun f w zz => ∃ (i : Nat) (usv uwv : Value), f 4 = .pointer (some ⟨b4, 0, none⟩) ∧ f 5 = .pointer (some ⟨b5, 0, none⟩) ∧ f 7 = .slice al l.length capl ∧ f 8 = .pointer (some ⟨b8, 0, none⟩) ∧ f 13 = usv ∧ f 14 = uwv ∧ f 15 = .int .i64 (i : Int) ∧ StX [] w0 w [rowI uwv 38 2 i ((wideK g.rate x.level x.moves p0 p1 i).flatMap spanC), rowI usv 38 2 i ((sureK g.rate x.level x.moves i).flatMap spanC), blk b8 [.string g.name, .int .i64 g.err, .int .i64 g.rate, .slice ad nd cd, .slice ar nr cr] 34, rowI rv 103 2 K rcs, rowI (.slice al l.length capl) 3 1 l.length (l.flatMap Bx.encI), blk b5 [.int .u8 p0, .int .u8 p1] 76, blk b4 [.int .i64 x.start, .int .i64 x.level, .slice am x.moves.length capm, .slice ag x.gaps.length capg, .slice ah x.shifts.length caph, .slice ae x.errs.length cape] 53] ∧ (i ≤ l.length) ∧ zz = l.length - i) _ ⟨_, rfl, 0, _, _, rfl, rfl, rfl, rfl, rfl, rfl, rfl, (((hS.sub (M := [blk b8 [.string g.name, .int .i64 g.err, .int .i64 g.rate, .slice ad nd cd, .slice ar nr cr] 34, rowI rv 103 2 K rcs, rowI (.slice al l.length capl) 3 1 l.length (l.flatMap Bx.encI), blk b5 [.int .u8 p0, .int .u8 p1] 76, blk b4 [.int .i64 x.start, .int .i64 x.level, .slice am x.moves.length capm, .slice ag x.gaps.length capg, .slice ah x.shifts.length caph, .slice ae x.errs.length cape] 53]) (.cons_cons _ (.cons_cons _ (.cons_cons _ (.cons_cons _ (.cons_cons _ (.cons _ (List.Sublist.refl _)))))))).nilrow 38 2).nilrow 38 2), (Nat.zero_le _), rfl⟩ ?_
    clear hS
    rintro f w _ ⟨i, usv, uwv, h4, h5, h7, h8, h13, h14, h15, hS, hi, rfl⟩
    refine seq ?_
    refine seq ?_
    refine region ?_
    refine sv (yMove h15) ?_
    refine sv (yMove h7) ?_
    refine sv (yLen rfl Try.underlying44) ?_
    refine sv (yLss rfl rfl) ?_
    refine nil ?_
    show Code.wp _ _ _ _ _
    refine cond rfl (fun c57 => ?_) (fun c57 => ?_)
    ·
      simp only [Bool.and_eq_true, Bool.or_eq_true, Bool.and_eq_false_iff, Bool.or_eq_false_iff, decide_eq_true_eq, decide_eq_false_iff_not, Bool.not_eq_true, Bool.not_eq_false, Bool.not_not, Bool.not_eq_eq_eq_not, Bool.not_true, Bool.not_false, Bool.false_eq_true, Bool.true_eq_false, ne_eq, Decidable.not_not, not_false_eq_true, not_true_eq_false] at c57
      obtain ⟨gl, hal, _⟩ := row_get (hS.row (.slice al l.length capl)) (by omega)
      have hli : l[i]? = some (lvS g.rate x.level x.moves i) := by rw [hlE]; exact lvsK_get (by omega)
      have hlbi := hlb i
      refine skip ?_
      show Code.wp _ _ _ _ _
      refine seq ?_
      refine block ?_
      refine seq ?_
      refine region_any (C := (fun w => StX [] w0 w [blk b8 [.string g.name, .int .i64 g.err, .int .i64 g.rate, .slice ad nd cd, .slice ar nr cr] 34, rowI rv 103 2 K rcs, rowI (.slice al l.length capl) 3 1 l.length (l.flatMap Bx.encI), blk b5 [.int .u8 p0, .int .u8 p1] 76, blk b4 [.int .i64 x.start, .int .i64 x.level, .slice am x.moves.length capm, .slice ag x.gaps.length capg, .slice ah x.shifts.length caph, .slice ae x.errs.length cape] 53])) mixed 10 12 (by kernel_rfl) (fun c a a' w h => by obtain ⟨_, v, hv, _⟩ := h; cases hv) hS (fun _ h => h.sub (.cons _ (.cons _ (List.Sublist.refl _)))) ?_
      clear hS; intro w hS
      refine hv (fun w hS => (yMove h13)) ?_
      refine hv (fun w hS => (yMove h7)) ?_
      refine hv (fun w hS => (yMove h15)) ?_
      refine hv (fun w hS => (yIxa rfl hal rfl Try.runUnderlying44 Try.sizeOf3 (by omega) (by omega))) ?_
      refine hv (fun w hS => (yLd rfl Try.isAgg3 ((flat_cells encI_len (row_at (hS.row (.slice al l.length capl)) hal (by omega)) hli).one))) ?_
      refine hv (fun w hS => (yMove h7)) ?_
      refine hv (fun w hS => (yMove h15)) ?_
      refine hv (fun w hS => (yIxa rfl hal rfl Try.runUnderlying44 Try.sizeOf3 (by omega) (by omega))) ?_
      refine hv (fun w hS => (yLd rfl Try.isAgg3 ((flat_cells encI_len (row_at (hS.row (.slice al l.length capl)) hal (by omega)) hli).one))) ?_
      refine hv (fun w hS => (yBuild Try.zeroValue38 rfl pl38 (.cons rfl rfl (.cons rfl rfl .nil)) rfl)) ?_
      refine hnil ?_
      show wpA _ _ _ _ _ _ _ _ _ _
      refine a_step (i := 10) (is := []) (by kernel_rfl) ⟨?_, trivial⟩
      refine ⟨_, rfl, ?_⟩
      refine sbslice hS Try.underlying61 Try.sizeOf38 rfl Try.zeroValue38 rfl (.cons rfl rfl .nil) rfl ?_; clear hS; intro b70 w hS
      refine nil ?_
      refine ⟨fun _ => hS.sub (List.Sublist.trans (.cons _ (.cons _ (List.Sublist.refl _))) (.cons _ (List.Sublist.refl _))), ?_⟩
      show wpA _ _ _ _ _ _ _ _ _ _
      refine a_step (i := 11) (is := []) (by kernel_rfl) ⟨?_, trivial⟩
      refine ⟨_, rfl, ?_⟩
      refine sapp (bytes := 16) (size := 2) (v := usv) (m := 1) hS rfl rfl Try.underlying61 ti38 rfl rfl rfl rfl (by decide) (blk_cells (hS.at _)) rfl rfl (by omega) (by omega) ?_; clear hS; intro v71 w hS
      refine nil ?_
      refine ⟨fun _ => hS.sub (List.Sublist.trans (.cons _ (.cons _ (List.Sublist.refl _))) (.cons _ (List.Sublist.refl _))), ?_⟩
      show wpA _ _ _ _ _ _ _ _ _ _
      refine a_step (i := 12) (is := []) (by kernel_rfl) ⟨?_, trivial⟩
      refine ⟨_, rfl, ?_⟩
      refine sv (yAsg rfl) ?_
      refine nil ?_
      refine ⟨fun h => absurd h (by decide), ?_⟩
      show wpA _ _ _ _ _ _ _ _ _ _
      refine a_end (by kernel_rfl) ?_
      show Code.wp _ _ _ _ _
      refine region_any (C := (fun w => StX [] w0 w [blk b8 [.string g.name, .int .i64 g.err, .int .i64 g.rate, .slice ad nd cd, .slice ar nr cr] 34, rowI rv 103 2 K rcs, rowI (.slice al l.length capl) 3 1 l.length (l.flatMap Bx.encI), blk b5 [.int .u8 p0, .int .u8 p1] 76, blk b4 [.int .i64 x.start, .int .i64 x.level, .slice am x.moves.length capm, .slice ag x.gaps.length capg, .slice ah x.shifts.length caph, .slice ae x.errs.length cape] 53])) mixed 20 22 (by kernel_rfl) (fun c a a' w h => by obtain ⟨_, v, hv, _⟩ := h; cases hv) hS (fun _ h => h.sub (.cons _ (.cons _ (.cons _ (List.Sublist.refl _))))) ?_
      clear hS; intro w hS
      refine hv (fun w hS => (yMove h14)) ?_
      refine hv (fun w hS => (yMove h7)) ?_
      refine hv (fun w hS => (yMove h15)) ?_
      refine hv (fun w hS => (yIxa rfl hal rfl Try.runUnderlying44 Try.sizeOf3 (by omega) (by omega))) ?_
      refine hv (fun w hS => (yLd rfl Try.isAgg3 ((flat_cells encI_len (row_at (hS.row (.slice al l.length capl)) hal (by omega)) hli).one))) ?_
      refine hv (fun w hS => (yIxA h5 rfl Try.runUnderlying76 Try.sizeOf5 (by omega) (by omega))) ?_
      refine hv (fun w hS => (yLdB rfl Try.isAgg5 (hS.at _) rfl)) ?_
      refine hv (fun w hS => (yToI rfl Try.underlying5 Try.underlying3 ⟨by omega, by omega⟩)) ?_
      refine hv (fun w hS => (ySub rfl rfl ⟨by omega, by omega⟩)) ?_
      refine hv (fun w hS => (yMax rfl rfl)) ?_
      refine hv (fun w hS => (yMove h7)) ?_
      refine hv (fun w hS => (yMove h15)) ?_
      refine hv (fun w hS => (yIxa rfl hal rfl Try.runUnderlying44 Try.sizeOf3 (by omega) (by omega))) ?_
      refine hv (fun w hS => (yLd rfl Try.isAgg3 ((flat_cells encI_len (row_at (hS.row (.slice al l.length capl)) hal (by omega)) hli).one))) ?_
      refine hv (fun w hS => (yIxA h5 rfl Try.runUnderlying76 Try.sizeOf5 (by omega) (by omega))) ?_
      refine hv (fun w hS => (yLdB rfl Try.isAgg5 (hS.at _) rfl)) ?_
      refine hv (fun w hS => (yToI rfl Try.underlying5 Try.underlying3 ⟨by omega, by omega⟩)) ?_
      refine hv (fun w hS => (yAdd rfl rfl ⟨by omega, by omega⟩)) ?_
      refine hv (fun w hS => (yMin rfl rfl)) ?_
      refine hv (fun w hS => (yBuild Try.zeroValue38 rfl pl38 (.cons rfl rfl (.cons rfl rfl .nil)) rfl)) ?_
      refine hnil ?_
      show wpA _ _ _ _ _ _ _ _ _ _
      refine a_step (i := 20) (is := []) (by kernel_rfl) ⟨?_, trivial⟩
      refine ⟨_, rfl, ?_⟩
      refine sbslice hS Try.underlying61 Try.sizeOf38 rfl Try.zeroValue38 rfl (.cons rfl rfl .nil) rfl ?_; clear hS; intro b92 w hS
      refine nil ?_
      refine ⟨fun _ => hS.sub (List.Sublist.trans (.cons _ (.cons _ (.cons _ (List.Sublist.refl _)))) (.cons _ (List.Sublist.refl _))), ?_⟩
      show wpA _ _ _ _ _ _ _ _ _ _
      refine a_step (i := 21) (is := []) (by kernel_rfl) ⟨?_, trivial⟩
      refine ⟨_, rfl, ?_⟩
      refine sapp (bytes := 16) (size := 2) (v := uwv) (m := 1) hS rfl rfl Try.underlying61 ti38 rfl rfl rfl rfl (by decide) (blk_cells (hS.at _)) rfl rfl (by omega) (by omega) ?_; clear hS; intro v93 w hS
      refine nil ?_
      refine ⟨fun _ => hS.sub (List.Sublist.trans (.cons _ (.cons _ (.cons _ (List.Sublist.refl _)))) (.cons _ (List.Sublist.refl _))), ?_⟩
      show wpA _ _ _ _ _ _ _ _ _ _
      refine a_step (i := 22) (is := []) (by kernel_rfl) ⟨?_, trivial⟩
      refine ⟨_, rfl, ?_⟩
      refine sv (yAsg rfl) ?_
      refine nil ?_
      refine ⟨fun h => absurd h (by decide), ?_⟩
      show wpA _ _ _ _ _ _ _ _ _ _
      refine a_end (by kernel_rfl) ?_
      show Code.wp _ _ _ _ _
      refine region ?_
      refine sv (yMove h15) ?_
      refine sv (yAdd rfl rfl ⟨by omega, by omega⟩) ?_
      refine sv (yAsg rfl) ?_
      refine nil ?_
      exact ⟨_, _, rfl, ⟨i + 1, _, _, h4, h5, h7, h8, rfl, rfl, rfl, (by rw [wideK_succ, sureK_succ, List.flatMap_append, List.flatMap_append]; exact hS.sub (.cons _ (.cons _ (List.Sublist.refl _)))), (by omega), rfl⟩, by omega⟩
    ·
      simp only [Bool.and_eq_true, Bool.or_eq_true, Bool.and_eq_false_iff, Bool.or_eq_false_iff, decide_eq_true_eq, decide_eq_false_iff_not, Bool.not_eq_true, Bool.not_eq_false, Bool.not_not, Bool.not_eq_eq_eq_not, Bool.not_true, Bool.not_false, Bool.false_eq_true, Bool.true_eq_false, ne_eq, Decidable.not_not, not_false_eq_true, not_true_eq_false] at c57
      obtain rfl : i = l.length := by omega
      refine exit ?_
      show Code.wp _ _ _ _ _
      refine seq ?_
      refine seq ?_
      refine region ?_
      refine sv (yAsg rfl) ?_
      refine nil ?_
      show Code.wp _ _ _ _ _
      refine block ?_
      refine loop (fun f w zz => ∃ (d : Nat), f 4 = .pointer (some ⟨b4, 0, none⟩) ∧ f 5 = .pointer (some ⟨b5, 0, none⟩) ∧ f 7 = .slice al l.length capl ∧ f 8 = .pointer (some ⟨b8, 0, none⟩) ∧ f 13 = usv ∧ f 14 = uwv ∧ f 16 = .int .i64 (d : Int) ∧ StX [] w0 w [rowI uwv 38 2 (x.moves.length + 1) ((wideK g.rate x.level x.moves p0 p1 (x.moves.length + 1)).flatMap spanC), rowI usv 38 2 (x.moves.length + 1) ((sureK g.rate x.level x.moves (x.moves.length + 1)).flatMap spanC), blk b8 [.string g.name, .int .i64 g.err, .int .i64 g.rate, .slice ad nd cd, .slice ar nr cr] 34, rowI rv 103 2 K rcs, rowI (.slice al l.length capl) 3 1 l.length (l.flatMap Bx.encI), blk b5 [.int .u8 p0, .int .u8 p1] 76, blk b4 [.int .i64 x.start, .int .i64 x.level, .slice am x.moves.length capm, .slice ag x.gaps.length capg, .slice ah x.shifts.length caph, .slice ae x.errs.length cape] 53] ∧ (d ≤ y.datums.length) ∧ zz = y.datums.length - d) _ ⟨_, rfl, 0, h4, h5, h7, h8, h13, h14, rfl, (by rw [← hll]; exact hS), (Nat.zero_le _), rfl⟩ ?_
      clear hS
      rintro f w _ ⟨d, h4, h5, h7, h8, h13, h14, h16, hS, hd, rfl⟩
      refine seq ?_
      refine seq ?_
      refine region ?_
      obtain ⟨dv, rv2, he, -, -, -, hsd2, -⟩ := hRG _ hS.ext (hS.row rv)
      simp only [List.cons.injEq, and_true] at he
      obtain ⟨-, -, -, rfl, rfl⟩ := he
      obtain ⟨a3, cap3, he3, hcap3, hmx3, hel3⟩ := hsd2
      simp only [Value.slice.injEq] at he3
      obtain ⟨ha3, hn3, hc3⟩ := he3
      rw [← ha3] at hel3
      clear ha3 hc3
      refine sv (yMove h16) ?_
      refine sv (fa34_3 h8) ?_
      refine sv (yLdB rfl Try.isAgg31 (hS.at _) rfl) ?_
      refine sv (yLen rfl Try.underlying31) ?_
      refine sv (yLss rfl rfl) ?_
      refine nil ?_
      show Code.wp _ _ _ _ _
      refine cond rfl (fun c98 => ?_) (fun c98 => ?_)
      ·
        simp only [Bool.and_eq_true, Bool.or_eq_true, Bool.and_eq_false_iff, Bool.or_eq_false_iff, decide_eq_true_eq, decide_eq_false_iff_not, Bool.not_eq_true, Bool.not_eq_false, Bool.not_not, Bool.not_eq_eq_eq_not, Bool.not_true, Bool.not_false, Bool.false_eq_true, Bool.true_eq_false, ne_eq, Decidable.not_not, not_false_eq_true, not_true_eq_false] at c98
        obtain ⟨dt, hxd, _⟩ := drop_of (l := y.datums) (k := d) (by omega)
        obtain ⟨bd_, od_, csd_, had_, hlend_, hcsd_, hRd_⟩ := hel3 d (by omega)
        obtain rfl : dt = y.datums[d] := (List.getElem?_eq_some_iff.1 hxd).2.symm
        generalize y.datums[d] = dt at hxd hRd_
        obtain ⟨rfl, hd1, hd2, hd3⟩ := hRd_
        have hdok := hok.datums dt (List.mem_of_getElem? hxd)
        have hdb := hdok.shift
        have hfit := hMd.fitted hsh hy (d := d) (by omega) hp0 hp1
        rw [hye, getD_hit hxd] at hfit
        obtain ⟨hf1, hf2, hf3, hf4, hf5⟩ := hfit
        refine skip ?_
        show Code.wp _ _ _ _ _
        refine seq ?_
        refine block ?_
        refine seq ?_
        refine region ?_
        refine sv (fa34_3 h8) ?_
        refine sv (yLdB rfl Try.isAgg31 (hS.at _) rfl) ?_
        refine sv (yMove h16) ?_
        refine sv (yIxa rfl had_ rfl Try.runUnderlying31 Try.sizeOf78 (by omega) (by omega)) ?_
        refine sv (fa78_1 rfl) ?_
        refine sv (yLdA rfl Try.isAgg38 Try.sizeOf38 ((hcsd_.mid (xs := spanC dt.shift) 1 rfl)) rfl) ?_
        refine salloc hS Try.zeroValue38 rfl ?_; clear hS; intro b17 w hS
        refine sst hS rfl rfl Try.sizeOf38 rfl rfl rfl rfl ?_; clear hS; intro w hS
        refine nil ?_
        show Code.wp _ _ _ _ _
        refine seq ?_
        refine region ?_
        refine sv (fa38_0 rfl) ?_
        refine sv (yLdB rfl Try.isAgg3 (hS.at _) rfl) ?_
        refine sv (yAsg rfl) ?_
        refine nil ?_
        show Code.wp _ _ _ _ _
        refine seqJ (n := 172) (fun f w => f 4 = .pointer (some ⟨b4, 0, none⟩) ∧ f 5 = .pointer (some ⟨b5, 0, none⟩) ∧ f 7 = .slice al l.length capl ∧ f 8 = .pointer (some ⟨b8, 0, none⟩) ∧ f 13 = usv ∧ f 14 = uwv ∧ f 16 = .int .i64 (d : Int) ∧ f 17 = .pointer (some ⟨b17, 0, none⟩) ∧ f 18 = .int .i64 (shN y x d) ∧ StX [] w0 w [blk b17 (spanC dt.shift) 38, rowI uwv 38 2 (x.moves.length + 1) ((wideK g.rate x.level x.moves p0 p1 (x.moves.length + 1)).flatMap spanC), rowI usv 38 2 (x.moves.length + 1) ((sureK g.rate x.level x.moves (x.moves.length + 1)).flatMap spanC), blk b8 [.string g.name, .int .i64 g.err, .int .i64 g.rate, .slice ad nd cd, .slice ar nr cr] 34, rowI rv 103 2 K rcs, rowI (.slice al l.length capl) 3 1 l.length (l.flatMap Bx.encI), blk b5 [.int .u8 p0, .int .u8 p1] 76, blk b4 [.int .i64 x.start, .int .i64 x.level, .slice am x.moves.length capm, .slice ag x.gaps.length capg, .slice ah x.shifts.length caph, .slice ae x.errs.length cape] 53] ∧ True) ?_ ?_
        ·
          refine seq ?_
          refine region ?_
          refine sv (yMove h16) ?_
          refine sv (fa53_4 h4) ?_
          refine sv (yLdB rfl Try.isAgg51 (hS.at _) rfl) ?_
          refine sv (yLen rfl Try.underlying51) ?_
          refine sv (yLss rfl rfl) ?_
          refine nil ?_
          show Code.wp _ _ _ _ _
          refine cond rfl (fun c113 => ?_) (fun c113 => ?_)
          ·
            simp only [Bool.and_eq_true, Bool.or_eq_true, Bool.and_eq_false_iff, Bool.or_eq_false_iff, decide_eq_true_eq, decide_eq_false_iff_not, Bool.not_eq_true, Bool.not_eq_false, Bool.not_not, Bool.not_eq_eq_eq_not, Bool.not_true, Bool.not_false, Bool.false_eq_true, Bool.true_eq_false, ne_eq, Decidable.not_not, not_false_eq_true, not_true_eq_false] at c113
            obtain ⟨es, hxs, _⟩ := drop_of (l := x.shifts) (k := d) (by omega)
            obtain ⟨bs_, os_, css_, has_, hlens_, hcss_, hRs_⟩ := helh d (by omega)
            obtain rfl : es = x.shifts[d] := (List.getElem?_eq_some_iff.1 hxs).2.symm
            generalize x.shifts[d] = es at hxs hRs_
            obtain ⟨rfl, hes1, hes2⟩ := hRs_
            have hgds := getD_hit (d := (0 : Int)) hxs
            have hpt := part255 (lo := dt.shift.lo) (hi := dt.shift.hi) (k := es) (by omega) ⟨hes1, hes2⟩
            have hm1 : 0 ≤ (dt.shift.hi - dt.shift.lo) * es := Int.mul_nonneg (by omega) hes1
            have hm2 : (dt.shift.hi - dt.shift.lo) * es ≤ (dt.shift.hi - dt.shift.lo) * 255 := Int.mul_le_mul_of_nonneg_left hes2 (by omega)
            refine region_draw mixed (by kernel_rfl) hS ?_
            refine qv (fun w hS => (yMove rfl)) ?_
            refine qv (fun w hS => (fa38_1 rfl)) ?_
            refine qv (fun w hS => (yLdB rfl Try.isAgg3 (hS.at _) rfl)) ?_
            refine qv (fun w hS => (fa38_0 rfl)) ?_
            refine qv (fun w hS => (yLdB rfl Try.isAgg3 (hS.at _) rfl)) ?_
            refine qv (fun w hS => (ySub rfl rfl ⟨by omega, by omega⟩)) ?_
            refine qv (fun w hS => (fa53_4 h4)) ?_
            refine qv (fun w hS => (yLdB rfl Try.isAgg51 (hS.at _) rfl)) ?_
            refine qv (fun w hS => (yMove h16)) ?_
            refine qv (fun w hS => (yIxa rfl has_ rfl Try.runUnderlying51 Try.sizeOf5 (by omega) (by omega))) ?_
            refine qv (fun w hS => (yLd rfl Try.isAgg5 ((hcss_.ext hS.ext).one))) ?_
            refine qv (fun w hS => (yToI rfl Try.underlying5 Try.underlying3 ⟨by omega, by omega⟩)) ?_
            refine qv (fun w hS => (yMul rfl rfl ⟨by omega, by omega⟩)) ?_
            refine qv (fun w hS => (yQuoP rfl rfl ⟨by omega, by omega⟩ (by omega))) ?_
            refine qv (fun w hS => (yAdd rfl rfl ⟨by omega, by omega⟩)) ?_
            refine qv (fun w hS => (yAsg rfl)) ?_
            clear hS; refine qnil (fun w hS => ?_)
            exact ⟨_, rfl, h4, h5, h7, h8, h13, h14, h16, rfl, (eqI (by unfold shN; rw [getD_hit hxd]; simp only []; rw [if_pos (by omega), hgds])), hS, trivial⟩
          ·
            simp only [Bool.and_eq_true, Bool.or_eq_true, Bool.and_eq_false_iff, Bool.or_eq_false_iff, decide_eq_true_eq, decide_eq_false_iff_not, Bool.not_eq_true, Bool.not_eq_false, Bool.not_not, Bool.not_eq_eq_eq_not, Bool.not_true, Bool.not_false, Bool.false_eq_true, Bool.true_eq_false, ne_eq, Decidable.not_not, not_false_eq_true, not_true_eq_false] at c113
            refine skip ?_
            exact ⟨_, rfl, h4, h5, h7, h8, h13, h14, h16, rfl, (eqI (by unfold shN; rw [getD_hit hxd]; simp only []; rw [if_neg (by omega)])), hS, trivial⟩
        ·
          clear hS; rintro f w ⟨h4, h5, h7, h8, h13, h14, h16, h17, h18, hS, -⟩
          refine seq ?_
          refine region ?_
          refine sv (yLdBA h8 Try.isAgg34 Try.sizeOf34 (hS.at _) rfl rfl) ?_
          refine sv (yMove h16) ?_
          refine sv (fa53_0 h4) ?_
          refine sv (yLdB rfl Try.isAgg3 (hS.at _) rfl) ?_
          refine sv (yMove h13) ?_
          refine scall Try.call43 (.cons rfl (.cons rfl (.cons rfl (.cons rfl .nil)))) (c_Fit (ks := (sureK g.rate x.level x.moves (x.moves.length + 1))) (q := (d : Int)) (hRG _ hS.ext (hS.row rv)) (sl_spans (hS.row usv) (sureK_len ..) (fun s hsm => by obtain ⟨i, _, rfl⟩ := List.mem_map.1 hsm; have := hlb i; exact ⟨⟨by show _ ≤ lvS g.rate x.level x.moves i; omega, by show lvS g.rate x.level x.moves i ≤ _; omega⟩, ⟨by show _ ≤ lvS g.rate x.level x.moves i; omega, by show lvS g.rate x.level x.moves i ≤ _; omega⟩⟩)) ⟨by omega, by omega⟩ ⟨by omega, by omega⟩) ?_
          rintro _ w ⟨rfl, hE⟩; replace hS := hS.step hE; clear hE
          refine sv (yMove rfl) ?_
          refine sv (yExt rfl rfl) ?_
          refine sv (yExt rfl rfl) ?_
          refine salloc hS Try.zeroValue38 rfl ?_; clear hS; intro b19 w hS
          refine sst hS rfl rfl Try.sizeOf38 rfl rfl rfl rfl ?_; clear hS; intro w hS
          refine sv (yAsg rfl) ?_
          refine nil ?_
          show Code.wp _ _ _ _ _
          refine seq ?_
          refine region ?_
          refine sv (yLdBA h8 Try.isAgg34 Try.sizeOf34 (hS.at _) rfl rfl) ?_
          refine sv (yMove h16) ?_
          refine sv (fa53_0 h4) ?_
          refine sv (yLdB rfl Try.isAgg3 (hS.at _) rfl) ?_
          refine sv (yMove h14) ?_
          refine scall Try.call43 (.cons rfl (.cons rfl (.cons rfl (.cons rfl .nil)))) (c_Fit (ks := (wideK g.rate x.level x.moves p0 p1 (x.moves.length + 1))) (q := (d : Int)) (hRG _ hS.ext (hS.row rv)) (sl_spans (hS.row uwv) (wideK_len ..) (fun s hsm => by obtain ⟨i, _, rfl⟩ := List.mem_map.1 hsm; have := hlb i; exact ⟨⟨by show _ ≤ max _ (lvS g.rate x.level x.moves i - p0); omega, by show max _ (lvS g.rate x.level x.moves i - p0) ≤ _; omega⟩, ⟨by show _ ≤ min _ (lvS g.rate x.level x.moves i + p1); omega, by show min _ (lvS g.rate x.level x.moves i + p1) ≤ _; omega⟩⟩)) ⟨by omega, by omega⟩ ⟨by omega, by omega⟩) ?_
          rintro _ w ⟨rfl, hE⟩; replace hS := hS.step hE; clear hE
          refine sv (yMove rfl) ?_
          refine sv (yExt rfl rfl) ?_
          refine sv (yExt rfl rfl) ?_
          refine salloc hS Try.zeroValue38 rfl ?_; clear hS; intro b21 w hS
          refine sst hS rfl rfl Try.sizeOf38 rfl rfl rfl rfl ?_; clear hS; intro w hS
          refine sv (yAsg rfl) ?_
          refine nil ?_
          show Code.wp _ _ _ _ _
          refine seq ?_
          refine region ?_
          refine sv (yMove rfl) ?_
          refine sv (yNeq rfl rfl) ?_
          refine sv (yMove rfl) ?_
          refine sg rfl rfl rfl (fun g => (yMove rfl)) (fun v150 g150 => ?_)
          refine sg rfl rfl rfl (fun g => (yNeq (g150.1 g) rfl)) (fun v151 g151 => ?_)
          refine sv (yOr rfl rfl (fun hB => (g151.1 hB))) ?_
          refine sv (yMove rfl) ?_
          refine sg rfl rfl rfl (fun g => (yLdBA rfl Try.isAgg38 Try.sizeOf38 (hS.at _) rfl rfl)) (fun v154 g154 => ?_)
          refine sg rfl rfl rfl (fun g => (yMove h18)) (fun v155 g155 => ?_)
          refine sgc hS rfl rfl rfl Try.call29 (fun g => (.cons (g154.1 g) (.cons (g155.1 g) .nil))) (fun g => c_has) ?_; clear hS; intro v156 w hS g156
          refine sg rfl rfl rfl (fun g => (yNot (g156.1 g))) (fun v157 g157 => ?_)
          refine sv (yOr rfl rfl (fun hB => (g157.1 hB))) ?_
          refine sv (yMove rfl) ?_
          refine sg rfl rfl rfl (fun g => (yLdBA rfl Try.isAgg38 Try.sizeOf38 (hS.at _) rfl rfl)) (fun v160 g160 => ?_)
          refine sg rfl rfl rfl (fun g => (yLdBA rfl Try.isAgg38 Try.sizeOf38 (hS.at _) rfl rfl)) (fun v161 g161 => ?_)
          refine sgc hS rfl rfl rfl Try.call30 (fun g => (.cons (g160.1 g) (.cons (g161.1 g) .nil))) (fun g => c_within) ?_; clear hS; intro v162 w hS g162
          refine sg rfl rfl rfl (fun g => (yNot (g162.1 g))) (fun v163 g163 => ?_)
          refine sv (yOr rfl rfl (fun hB => (g163.1 hB))) ?_
          refine sv (yMove rfl) ?_
          refine sg rfl rfl rfl (fun g => (yLdBA rfl Try.isAgg38 Try.sizeOf38 (hS.at _) rfl rfl)) (fun v166 g166 => ?_)
          refine sg rfl rfl rfl (fun g => (yLdBA h17 Try.isAgg38 Try.sizeOf38 (hS.at _) rfl rfl)) (fun v167 g167 => ?_)
          refine sgc hS rfl rfl rfl Try.call30 (fun g => (.cons (g166.1 g) (.cons (g167.1 g) .nil))) (fun g => c_within) ?_; clear hS; intro v168 w hS g168
          refine sg rfl rfl rfl (fun g => (yNot (g168.1 g))) (fun v169 g169 => ?_)
          refine sv (yOr rfl rfl (fun hB => (g169.1 hB))) ?_
          refine nil ?_
          show Code.wp _ _ _ _ _
          refine cond rfl (fun c170 => ?_) (fun c170 => ?_)
          ·
            exact absurd c170 (by rw [hf1, hf2, hf3, hf4, hf5]; decide)
          ·
            refine skip ?_
            show Code.wp _ _ _ _ _
            refine region ?_
            refine sv (yMove h16) ?_
            refine sv (yAdd rfl rfl ⟨by omega, by omega⟩) ?_
            refine sv (yAsg rfl) ?_
            refine nil ?_
            exact ⟨_, _, rfl, ⟨d + 1, h4, h5, h7, h8, h13, h14, rfl, (hS.sub (.cons _ (.cons _ (.cons _ (List.Sublist.refl _))))), (by omega), rfl⟩, by omega⟩
      ·
        simp only [Bool.and_eq_true, Bool.or_eq_true, Bool.and_eq_false_iff, Bool.or_eq_false_iff, decide_eq_true_eq, decide_eq_false_iff_not, Bool.not_eq_true, Bool.not_eq_false, Bool.not_not, Bool.not_eq_eq_eq_not, Bool.not_true, Bool.not_false, Bool.false_eq_true, Bool.true_eq_false, ne_eq, Decidable.not_not, not_false_eq_true, not_true_eq_false] at c98
        refine exit ?_
        show Code.wp _ _ _ _ _
        refine seq ?_
        refine region ?_
        refine scall Try.call23 .nil c_Awake ?_
        rintro _ w ⟨rfl, hE⟩; replace hS := hS.step hE; clear hE
        refine sv (yAsg rfl) ?_
        refine nil ?_
        show Code.wp _ _ _ _ _
        refine wp_ret ?_
        exact retV (res1 rfl rfl) hS.ext
end Go.Proofs.Ytpgmehignepidaa
