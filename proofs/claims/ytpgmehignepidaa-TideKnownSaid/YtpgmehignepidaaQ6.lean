/- Merged texts, part 6. -/
import Derived.Test.YtpgmehignepidaaQ5
set_option linter.all false
/- part P27 -/
namespace Bx
open Go Go.RowKit
def fitB (g : Gauge) (q fr : Int) (n : Nat) (r : Reading) : Bool := decide (((datI g.datums r.tick : Nat) : Int) = q) && !(outB (W64 (r.tick - fr)) 0 ((n : Int) - 1))
def fitC (g : Gauge) (q fr : Int) (ks : List Span) (s : Span) (r : Reading) : Span :=
  if fitB g q fr ks.length r = true then cutS s (around r.value g.err (ks.getD (W64 (r.tick - fr)).toNat ⟨0, 0⟩)) else s
def fitS (g : Gauge) (q fr : Int) (ks : List Span) (s : Span) (rs : List Reading) : Span := rs.foldl (fitC g q fr ks) s
def noneS (s : Span) : Bool := outB s.hi (-20000) 20000 || outB s.lo (-20000) s.hi
def fitE (g : Gauge) (q fr : Int) (ks : List Span) : Int :=
  if (checkG g).2.2 ≠ 0 then (checkG g).2.2 else if outB q 0 ((g.datums.length : Int) - 1) = true then 4 else if someE fr ks.length ≠ 0 then someE fr ks.length else if ks.any noneS = true then 2 else 0
def fitI (g : Gauge) (q fr : Int) (ks : List Span) : Span := fitS g q fr ks (g.datums.getD q.toNat ⟨0, ⟨0, 0⟩⟩).shift g.readings
def fitF (g : Gauge) (q fr : Int) (ks : List Span) : Span × Int :=
  if fitE g q fr ks ≠ 0 then (⟨0, 0⟩, fitE g q fr ks) else if (fitI g q fr ks).hi < (fitI g q fr ks).lo then (⟨0, 0⟩, 9) else (fitI g q fr ks, 0)
theorem fitF_e {g : Gauge} {q fr : Int} {ks : List Span} {e : Int} (h : fitE g q fr ks = e) (h0 : e ≠ 0) : fitF g q fr ks = (⟨0, 0⟩, e) := by unfold fitF; rw [h, if_pos h0]
theorem fitE_1 {g : Gauge} {q fr : Int} {ks : List Span} (h : (checkG g).2.2 ≠ 0) : fitE g q fr ks = (checkG g).2.2 := by unfold fitE; rw [if_pos h]
theorem fitE_2 {g : Gauge} {q fr : Int} {ks : List Span} (h : (checkG g).2.2 = 0) (h2 : outB q 0 ((g.datums.length : Int) - 1) = true) : fitE g q fr ks = 4 := by unfold fitE; rw [if_neg (fun k => k h), if_pos h2]
theorem fitE_3 {g : Gauge} {q fr : Int} {ks : List Span} (h : (checkG g).2.2 = 0) (h2 : outB q 0 ((g.datums.length : Int) - 1) = false) (h3 : someE fr ks.length ≠ 0) : fitE g q fr ks = someE fr ks.length := by
  unfold fitE; rw [if_neg (fun k => k h), if_neg (by rw [h2]; decide), if_pos h3]
theorem fitE_4 {g : Gauge} {q fr : Int} {ks : List Span} (h : (checkG g).2.2 = 0) (h2 : outB q 0 ((g.datums.length : Int) - 1) = false) (h3 : someE fr ks.length = 0) : fitE g q fr ks = if ks.any noneS = true then 2 else 0 := by
  unfold fitE; rw [if_neg (fun k => k h), if_neg (by rw [h2]; decide), if_neg (fun k => k h3)]
theorem fitS_snoc (g : Gauge) (q fr : Int) (ks : List Span) (s : Span) (l : List Reading) (r : Reading) : fitS g q fr ks s (l ++ [r]) = fitC g q fr ks (fitS g q fr ks s l) r := by simp [fitS]
theorem noneS_iff {s : Span} : noneS s = false ↔ -20000 ≤ s.lo ∧ s.lo ≤ s.hi ∧ s.hi ≤ 20000 := by
  simp only [noneS, Bool.or_eq_false_iff, outB_false]; omega
theorem fitS_has {g : Gauge} {q fr n : Int} {ks : List Span} : ∀ (rs : List Reading) (s : Span), (∀ r ∈ rs, fitB g q fr ks.length r = true → (around r.value g.err (ks.getD (W64 (r.tick - fr)).toNat ⟨0, 0⟩)).lo ≤ n ∧ n ≤ (around r.value g.err (ks.getD (W64 (r.tick - fr)).toNat ⟨0, 0⟩)).hi) →
    s.lo ≤ n ∧ n ≤ s.hi → (fitS g q fr ks s rs).lo ≤ n ∧ n ≤ (fitS g q fr ks s rs).hi
  | [], s, _, h => h
  | r :: rs, s, ha, h => by
    refine fitS_has rs (fitC g q fr ks s r) (fun x hx => ha x (List.mem_cons_of_mem _ hx)) ?_
    unfold fitC
    by_cases hb : fitB g q fr ks.length r = true
    · rw [if_pos hb]
      have := ha r (List.mem_cons_self ..) hb
      exact ⟨by show max s.lo _ ≤ n; omega, by show n ≤ min s.hi _; omega⟩
    · rw [if_neg hb]; exact h
theorem fitS_within {g : Gauge} {q fr : Int} {ks ms : List Span} (hl : ks.length = ms.length) (hk : ∀ i, i < ks.length → (ms.getD i ⟨0, 0⟩).lo ≤ (ks.getD i ⟨0, 0⟩).lo ∧ (ks.getD i ⟨0, 0⟩).hi ≤ (ms.getD i ⟨0, 0⟩).hi) :
    ∀ (rs : List Reading) (s u : Span), Within s u → Within (fitS g q fr ks s rs) (fitS g q fr ms u rs)
  | [], s, u, h => h
  | r :: rs, s, u, h => by
    refine fitS_within hl hk rs _ _ ?_
    unfold fitC
    rw [← hl]
    by_cases hb : fitB g q fr ks.length r = true
    · rw [if_pos hb, if_pos hb]
      simp only [fitB, Bool.and_eq_true, Bool.not_eq_true', outB_false] at hb
      have := hk (W64 (r.tick - fr)).toNat (by omega)
      obtain ⟨h1, h2⟩ := h
      refine ⟨?_, ?_⟩
      · show max u.lo (r.value - g.err - _) ≤ max s.lo (r.value - g.err - _)
        omega
      · show min s.hi (r.value + g.err - _) ≤ min u.hi (r.value + g.err - _)
        omega
    · rw [if_neg hb, if_neg hb]; exact h
theorem fitS_less {g : Gauge} {q fr : Int} {ks : List Span} : ∀ (rs : List Reading) (s : Span), Within (fitS g q fr ks s rs) s
  | [], s => ⟨Int.le_refl _, Int.le_refl _⟩
  | r :: rs, s => by
    have h := fitS_less (g := g) (q := q) (fr := fr) (ks := ks) rs (fitC g q fr ks s r)
    have h2 : Within (fitC g q fr ks s r) s := by
      unfold fitC
      by_cases hb : fitB g q fr ks.length r = true
      · rw [if_pos hb]; exact ⟨by show s.lo ≤ max s.lo _; omega, by show min s.hi _ ≤ s.hi; omega⟩
      · rw [if_neg hb]; exact ⟨Int.le_refl _, Int.le_refl _⟩
    exact ⟨Int.le_trans h2.1 h.1, Int.le_trans h.2 h2.2⟩
def sureK (rate lev : Int) (ms : List Int) (k : Nat) : List Span := (List.range k).map fun i => ⟨lvS rate lev ms i, lvS rate lev ms i⟩
def wideK (rate lev : Int) (ms : List Int) (a b : Int) (k : Nat) : List Span := (List.range k).map fun i => ⟨max (-20000) (lvS rate lev ms i - a), min 20000 (lvS rate lev ms i + b)⟩
theorem sureK_succ (rate lev : Int) (ms : List Int) (k : Nat) : sureK rate lev ms (k + 1) = sureK rate lev ms k ++ [⟨lvS rate lev ms k, lvS rate lev ms k⟩] := by simp [sureK, List.range_succ]
theorem wideK_succ (rate lev : Int) (ms : List Int) (a b : Int) (k : Nat) : wideK rate lev ms a b (k + 1) = wideK rate lev ms a b k ++ [⟨max (-20000) (lvS rate lev ms k - a), min 20000 (lvS rate lev ms k + b)⟩] := by simp [wideK, List.range_succ]
theorem sureK_len (rate lev : Int) (ms : List Int) (k : Nat) : (sureK rate lev ms k).length = k := by simp [sureK]
theorem wideK_len (rate lev : Int) (ms : List Int) (a b : Int) (k : Nat) : (wideK rate lev ms a b k).length = k := by simp [wideK]
theorem Made.value {g : Gauge} {x : Truth} {y : Gauge} {K : Nat} (h : Made g x y K) (hs : SharesOk x) (hy : GaugeOk y) {r : Reading} (hr : r ∈ y.readings) :
    ∃ n : Nat, n < x.moves.length + 1 ∧ r.tick = x.start + n ∧ Bd (r.value - lvS y.rate x.level x.moves n - shN y x (datI y.datums r.tick)) (-y.err) y.err := by
  obtain ⟨htr, rfl, hat⟩ := h
  obtain ⟨j, hj, rfl⟩ := List.mem_map.1 hr
  rw [List.mem_range] at hj
  have h0 := atS_nonneg (gaps := x.gaps) j
  have hja := hat j hj
  obtain ⟨n, hn⟩ := Int.eq_ofNat_of_zero_le h0
  have hlb := lvS_bd (rate := g.rate) htr.level x.moves n
  have hst := htr.start
  obtain ⟨d, hd1, hd2, hd3⟩ := datum_at hy (t := x.start + (n : Int)) (by omega)
  have hd1 : g.datums[datI g.datums (x.start + (n : Int))]? = some d := hd1
  have hsh := shV_eq (g := g) (x := x) (v := lvS g.rate x.level x.moves n) hd1 hd3 hs.shifts hlb
  have hsn := shN_bd (g := g) (x := x) hd1 hd3 hs.shifts
  have hdb := hd3.shift
  have her := erV_eq (g := g) (x := x) (i := j) (v := lvS g.rate x.level x.moves n + shN g x (datI g.datums (x.start + (n : Int)))) hy.err hs.errs ⟨by omega, by omega⟩
  have hk : datK g.datums (x.start + (n : Int)) g.datums.length = datI g.datums (x.start + (n : Int)) := datK_datI (g := { g with readings := mkRs g x K }) hy
  have hmk : mkR g x j = ⟨x.start + (n : Int), erV g x j (lvS g.rate x.level x.moves n + shN g x (datI g.datums (x.start + (n : Int))))⟩ := by
    unfold mkR
    rw [hn, hk, Int.toNat_natCast, hsh]
  rw [hmk]
  refine ⟨n, by omega, rfl, ?_⟩
  show Bd (erV g x j (lvS g.rate x.level x.moves n + shN g x (datI g.datums (x.start + (n : Int)))) - lvS g.rate x.level x.moves n - shN g x (datI g.datums (x.start + (n : Int)))) (-g.err) g.err
  exact ⟨by have := her.1; have : -g.err ≤ _ := this; omega, by have := her.2; have : _ ≤ g.err := this; omega⟩
/-- What is made fits the shift that it was made with. -/
theorem Made.fits {g : Gauge} {x : Truth} {y : Gauge} {K : Nat} (h : Made g x y K) (hs : SharesOk x) (hy : (checkG y).2.2 = 0) {d : Nat} (hd : d < y.datums.length) {ks : List Span} (hkl : ks.length = x.moves.length + 1)
    (hk : ∀ i, i < ks.length → (ks.getD i ⟨0, 0⟩).lo ≤ lvS y.rate x.level x.moves i ∧ lvS y.rate x.level x.moves i ≤ (ks.getD i ⟨0, 0⟩).hi) (hb : ∀ s ∈ ks, noneS s = false) :
    fitF y d x.start ks = (fitI y d x.start ks, 0) ∧ (fitI y d x.start ks).lo ≤ shN y x d ∧ shN y x d ≤ (fitI y d x.start ks).hi := by
  have hok := gaugeOk_of hy
  have hst := h.tr.start
  have hln := h.tr.len
  have hS0 : someE x.start ks.length = 0 := by
    rw [someE_eq _ _ ⟨by omega, by omega⟩, if_neg]
    rintro ⟨_, k | k⟩
    · exact k ⟨by omega, by omega⟩
    · exact k ⟨by omega, by omega⟩
  have hE : fitE y d x.start ks = 0 := by
    rw [fitE_4 hy (outB_false.2 ⟨by omega, by omega⟩) hS0, if_neg]
    intro k
    obtain ⟨s, hs1, hs2⟩ := List.any_eq_true.1 k
    rw [hb s hs1] at hs2; cases hs2
  have hm : (fitI y d x.start ks).lo ≤ shN y x d ∧ shN y x d ≤ (fitI y d x.start ks).hi := by
    unfold fitI
    refine fitS_has _ _ (fun r hr hbr => ?_) ?_
    · obtain ⟨n, hn, htk, hv⟩ := h.value hs hok hr
      simp only [fitB, Bool.and_eq_true, decide_eq_true_eq] at hbr
      have hdd : datI y.datums r.tick = d := by have := hbr.1; omega
      rw [hdd] at hv
      have hw : W64 (r.tick - x.start) = n := by rw [htk, w64_in ⟨by omega, by omega⟩]; omega
      rw [hw, Int.toNat_natCast]
      have hkn := hk n (by omega)
      generalize (ks.getD n ⟨0, 0⟩) = s at hkn
      have h1 := hv.1
      have h2 := hv.2
      have h1 : -y.err ≤ r.value - lvS y.rate x.level x.moves n - shN y x d := h1
      have h2 : r.value - lvS y.rate x.level x.moves n - shN y x d ≤ y.err := h2
      exact ⟨by show r.value - y.err - s.hi ≤ _; omega, by show _ ≤ r.value + y.err - s.lo; omega⟩
    · rw [Int.toNat_natCast]
      have hx : y.datums[d]? = some y.datums[d] := List.getElem?_eq_getElem hd
      have := shN_bd (g := y) (x := x) hx (hok.datums _ (List.getElem_mem hd)) hs.shifts
      rw [getD_hit hx]
      exact this
  refine ⟨?_, hm⟩
  unfold fitF
  rw [if_neg (fun k => k hE), if_neg (by omega)]
theorem Made.fitted {g : Gauge} {x : Truth} {y : Gauge} {K : Nat} (h : Made g x y K) (hs : SharesOk x) (hy : (checkG y).2.2 = 0) {d : Nat} (hd : d < y.datums.length) {a b : Int} (ha : Bd a 0 255) (hb : Bd b 0 255) :
    let F := fitF y d x.start (sureK y.rate x.level x.moves (x.moves.length + 1))
    let G := fitF y d x.start (wideK y.rate x.level x.moves a b (x.moves.length + 1))
    F.2 = 0 ∧ G.2 = 0 ∧ hasB F.1 (shN y x d) = true ∧ withinB F.1 G.1 = true ∧ withinB G.1 (y.datums.getD d ⟨0, ⟨0, 0⟩⟩).shift = true := by
  have hlb : ∀ i, Bd (lvS y.rate x.level x.moves i) (-20000) 20000 := fun i => lvS_bd h.tr.level x.moves i
  have g1 : ∀ i, i < x.moves.length + 1 → (sureK y.rate x.level x.moves (x.moves.length + 1)).getD i ⟨0, 0⟩ = ⟨lvS y.rate x.level x.moves i, lvS y.rate x.level x.moves i⟩ := fun i hi => by simp [sureK, hi]
  have g2 : ∀ i, i < x.moves.length + 1 → (wideK y.rate x.level x.moves a b (x.moves.length + 1)).getD i ⟨0, 0⟩ = ⟨max (-20000) (lvS y.rate x.level x.moves i - a), min 20000 (lvS y.rate x.level x.moves i + b)⟩ := fun i hi => by simp [wideK, hi]
  obtain ⟨e1, m1, m2⟩ := h.fits hs hy hd (ks := sureK y.rate x.level x.moves (x.moves.length + 1)) (sureK_len ..) (fun i hi => by rw [sureK_len] at hi; rw [g1 i hi]; exact ⟨Int.le_refl _, Int.le_refl _⟩)
    (fun s hsm => by obtain ⟨i, _, rfl⟩ := List.mem_map.1 hsm; have := hlb i; exact noneS_iff.2 ⟨this.1, Int.le_refl _, this.2⟩)
  obtain ⟨e2, _, _⟩ := h.fits hs hy hd (ks := wideK y.rate x.level x.moves a b (x.moves.length + 1)) (wideK_len ..) (fun i hi => by rw [wideK_len] at hi; rw [g2 i hi]; have := hlb i; exact ⟨by show max _ _ ≤ _; omega, by show _ ≤ min _ _; omega⟩)
    (fun s hsm => by obtain ⟨i, _, rfl⟩ := List.mem_map.1 hsm; have := hlb i; exact noneS_iff.2 ⟨by show _ ≤ max _ _; omega, by show max _ _ ≤ min _ _; omega, by show min _ _ ≤ _; omega⟩)
  rw [e1, e2]
  refine ⟨rfl, rfl, hasB_iff.2 ⟨m1, m2⟩, withinB_iff.2 ?_, withinB_iff.2 ?_⟩
  · refine fitS_within (by rw [sureK_len, wideK_len]) (fun i hi => ?_) _ _ _ ⟨Int.le_refl _, Int.le_refl _⟩
    rw [sureK_len] at hi
    rw [g1 i hi, g2 i hi]
    have := hlb i
    exact ⟨by show max _ _ ≤ lvS y.rate x.level x.moves i; omega, by show lvS y.rate x.level x.moves i ≤ min _ _; omega⟩
  · have := fitS_less (g := y) (q := d) (fr := x.start) (ks := wideK y.rate x.level x.moves a b (x.moves.length + 1)) y.readings (y.datums.getD (d : Int).toNat ⟨0, ⟨0, 0⟩⟩).shift
    rw [Int.toNat_natCast] at this
    unfold fitI
    rw [Int.toNat_natCast]
    exact this
end Bx
/- part Wk36 -/
namespace Go.Proofs.Ytpgmehignepidaa
open Go Bx
set_option maxHeartbeats 2000000 in
/-- barrage/tide.Residual -/
theorem c_Residual {t : Table} {cs : List Value} {l : List Gauge} {v : Value} {wrong tick now : Int} {w0 : World} (ht : RTable w0 cs t) (hl : Sl w0 5 RGauge v l) (hw : I64 wrong) (hti : I64 tick) (hn : I64 now) : CV Try.prog 44 #[.agg cs.toArray, v, .int .i64 wrong, .int .i64 tick, .int .i64 now] w0 (.tuple #[.agg (spanC (residF t l wrong tick now).1).toArray, .int .i64 (residF t l wrong tick now).2]) := by
  obtain ⟨cv, rfl, hmean, hsl⟩ := id ht
  refine enter Try.func44 rfl Try.ntmps44 rfl ?_
  have hS := St.start w0
  refine seq ?_
  refine region ?_
  refine sbox hS rfl rfl ?_; clear hS; intro b5 w hS
  refine salloc hS Try.zeroValue38 rfl ?_; clear hS; intro b10 w hS
  refine sv (yAsg rfl) ?_
  refine nil ?_
  show Code.wp _ _ _ _ _
  refine seq ?_
  refine region ?_
  refine sv (yLdBA rfl Try.isAgg24 Try.sizeOf24 (hS.at _) rfl rfl) ?_
  refine scall Try.call19 (.cons rfl .nil) (c_Check (ht.ext hS.ext)) ?_
  rintro _ w ⟨rfl, hE⟩; replace hS := hS.step hE; clear hE
  refine sv (yMove rfl) ?_
  refine sv (yExt rfl rfl) ?_
  refine sv (yExt rfl rfl) ?_
  refine sv (yAsg rfl) ?_
  refine sv (yAsg rfl) ?_
  refine nil ?_
  show Code.wp _ _ _ _ _
  refine seq ?_
  refine seq ?_
  refine region ?_
  refine sv (yMove rfl) ?_
  refine sv (yNeq rfl rfl) ?_
  refine nil ?_
  show Code.wp _ _ _ _ _
  refine cond rfl (fun c22 => ?_) (fun c22 => ?_)
  ·
    simp only [Bool.and_eq_true, Bool.or_eq_true, Bool.and_eq_false_iff, Bool.or_eq_false_iff, decide_eq_true_eq, decide_eq_false_iff_not, Bool.not_eq_true, Bool.not_eq_false, Bool.not_not, Bool.not_eq_eq_eq_not, Bool.not_true, Bool.not_false, Bool.false_eq_true, Bool.true_eq_false, ne_eq, Decidable.not_not, not_false_eq_true, not_true_eq_false] at c22
    have hfin : residF t l wrong tick now = (⟨0, 0⟩, (checkT t).2) := by unfold residF; rw [if_pos c22]
    refine seq ?_
    refine region ?_
    refine sv (yBuild Try.zeroValue38 rfl pl38 .nil rfl) ?_
    refine sv (yMove rfl) ?_
    refine sst hS rfl rfl Try.sizeOf38 rfl rfl rfl rfl ?_; clear hS; intro w hS
    refine sv (yAsg rfl) ?_
    refine nil ?_
    show Code.wp _ _ _ _ _
    refine wp_ret (thenR ?_)
    exact retV (resV2 rfl (rc rfl Try.isAgg38 Try.sizeOf38 (hS.at _) (by rw [hfin]; rfl) rfl) (rt (eqI (by rw [hfin])))) hS.ext
  ·
    simp only [Bool.and_eq_true, Bool.or_eq_true, Bool.and_eq_false_iff, Bool.or_eq_false_iff, decide_eq_true_eq, decide_eq_false_iff_not, Bool.not_eq_true, Bool.not_eq_false, Bool.not_not, Bool.not_eq_eq_eq_not, Bool.not_true, Bool.not_false, Bool.false_eq_true, Bool.true_eq_false, ne_eq, Decidable.not_not, not_false_eq_true, not_true_eq_false] at c22
    have hok := tableOk_of c22
    refine skip ?_
    show Code.wp _ _ _ _ _
    refine seq ?_
    refine region ?_
    refine sv (yMove rfl) ?_
    refine sv (yMove rfl) ?_
    refine sv (yMove rfl) ?_
    refine sv (yMove rfl) ?_
    refine scall Try.call37 (.cons rfl (.cons rfl (.cons rfl (.cons rfl .nil)))) (c_Sound (hl.ext RGauge.stays hS.ext) hw hti hn) ?_
    rintro _ w ⟨rfl, hE⟩; replace hS := hS.step hE; clear hE
    refine sv (yMove rfl) ?_
    refine sv (yExt rfl rfl) ?_
    refine sv (yExt rfl rfl) ?_
    refine salloc hS Try.zeroValue38 rfl ?_; clear hS; intro b14 w hS
    refine sst hS rfl rfl Try.sizeOf38 rfl rfl rfl rfl ?_; clear hS; intro w hS
    refine sv (yAsg rfl) ?_
    refine nil ?_
    show Code.wp _ _ _ _ _
    refine seq ?_
    refine seq ?_
    refine region ?_
    refine sv (yMove rfl) ?_
    refine sv (yNeq rfl rfl) ?_
    refine nil ?_
    show Code.wp _ _ _ _ _
    refine cond rfl (fun c34 => ?_) (fun c34 => ?_)
    ·
      simp only [Bool.and_eq_true, Bool.or_eq_true, Bool.and_eq_false_iff, Bool.or_eq_false_iff, decide_eq_true_eq, decide_eq_false_iff_not, Bool.not_eq_true, Bool.not_eq_false, Bool.not_not, Bool.not_eq_eq_eq_not, Bool.not_true, Bool.not_false, Bool.false_eq_true, Bool.true_eq_false, ne_eq, Decidable.not_not, not_false_eq_true, not_true_eq_false] at c34
      have hfin : residF t l wrong tick now = (⟨0, 0⟩, (soundF l wrong tick now).2) := by unfold residF; rw [if_neg (fun h => h c22), if_pos c34]
      refine seq ?_
      refine region ?_
      refine sv (yBuild Try.zeroValue38 rfl pl38 .nil rfl) ?_
      refine sv (yMove rfl) ?_
      refine sst hS rfl rfl Try.sizeOf38 rfl rfl rfl rfl ?_; clear hS; intro w hS
      refine sv (yAsg rfl) ?_
      refine nil ?_
      show Code.wp _ _ _ _ _
      refine wp_ret (thenR ?_)
      exact retV (resV2 rfl (rc rfl Try.isAgg38 Try.sizeOf38 (hS.at _) (by rw [hfin]; rfl) rfl) (rt (eqI (by rw [hfin])))) hS.ext
    ·
      simp only [Bool.and_eq_true, Bool.or_eq_true, Bool.and_eq_false_iff, Bool.or_eq_false_iff, decide_eq_true_eq, decide_eq_false_iff_not, Bool.not_eq_true, Bool.not_eq_false, Bool.not_not, Bool.not_eq_eq_eq_not, Bool.not_true, Bool.not_false, Bool.false_eq_true, Bool.true_eq_false, ne_eq, Decidable.not_not, not_false_eq_true, not_true_eq_false] at c34
      obtain ⟨hE0, htb, hs1, hs2, hs3⟩ := soundF_zero c34
      have hlb := lvlT_bd hok tick
      have hfin : residF t l wrong tick now = (⟨(soundF l wrong tick now).1.lo - (lvlT t tick).hi, (soundF l wrong tick now).1.hi - (lvlT t tick).lo⟩, 0) := by unfold residF; rw [if_neg (fun h => h c22), if_neg (fun h => h c34)]
      refine skip ?_
      show Code.wp _ _ _ _ _
      refine seq ?_
      refine region ?_
      refine sv (yLdBA rfl Try.isAgg24 Try.sizeOf24 (hS.at _) rfl rfl) ?_
      refine sv (yMove rfl) ?_
      refine scall Try.call71 (.cons rfl (.cons rfl (.cons rfl .nil))) (c_levels (n := 1) (hsl.ext RConst.stays hS.ext) hok htb (by omega)) ?_
      rintro ov w hM; replace hS := hS.call1 hM; clear hM; obtain ⟨g, cap, rfl, _, _, hcl⟩ := row_some (hS.row ov) (by decide); rw [lvl1] at hcl
      refine sv (yIx rfl rfl Try.runUnderlying61 Try.sizeOf38 (by omega) (by omega)) ?_
      refine sv (yLdA rfl Try.isAgg38 Try.sizeOf38 hcl rfl) ?_
      refine salloc hS Try.zeroValue38 rfl ?_; clear hS; intro b15 w hS
      refine sst hS rfl rfl Try.sizeOf38 rfl rfl rfl rfl ?_; clear hS; intro w hS
      refine nil ?_
      show Code.wp _ _ _ _ _
      refine seq ?_
      refine region ?_
      refine sv (fa38_0 rfl) ?_
      refine sv (yLdB rfl Try.isAgg3 (hS.at _) rfl) ?_
      refine sv (fa38_1 rfl) ?_
      refine sv (yLdB rfl Try.isAgg3 (hS.at _) rfl) ?_
      refine sv (ySub rfl rfl ⟨by omega, by omega⟩) ?_
      refine sv (fa38_1 rfl) ?_
      refine sv (yLdB rfl Try.isAgg3 (hS.at _) rfl) ?_
      refine sv (fa38_0 rfl) ?_
      refine sv (yLdB rfl Try.isAgg3 (hS.at _) rfl) ?_
      refine sv (ySub rfl rfl ⟨by omega, by omega⟩) ?_
      refine sv (yBuild Try.zeroValue38 rfl pl38 (.cons rfl rfl (.cons rfl rfl .nil)) rfl) ?_
      refine sst hS rfl rfl Try.sizeOf38 rfl rfl rfl rfl ?_; clear hS; intro w hS
      refine sv (yAsg rfl) ?_
      refine nil ?_
      show Code.wp _ _ _ _ _
      refine wp_ret ?_
      exact retV (resV2 rfl (rc rfl Try.isAgg38 Try.sizeOf38 (hS.at _) (by rw [hfin]; rfl) rfl) (rt (eqI (by rw [hfin])))) hS.ext
set_option maxHeartbeats 2000000 in
/-- barrage/barrageref01.Residual -/
theorem c_rResidual {t : Table} {cs : List Value} {l : List Gauge} {v : Value} {wrong tick now : Int} {w0 : World} (ht : RTable w0 cs t) (hl : Sl w0 5 RGauge v l) (hw : I64 wrong) (hti : I64 tick) (hn : I64 now) : CV Try.prog 45 #[.agg cs.toArray, v, .int .i64 wrong, .int .i64 tick, .int .i64 now] w0 (.tuple #[.agg (spanC (residF t l wrong tick now).1).toArray, .int .i64 (residF t l wrong tick now).2]) := by
  obtain ⟨cv, rfl, hmean, hsl⟩ := id ht
  have hsq := sound_law l wrong tick now
  refine enter Try.func45 rfl Try.ntmps45 rfl ?_
  have hS := St.start w0
  refine seq ?_
  refine region ?_
  refine sbox hS rfl rfl ?_; clear hS; intro b5 w hS
  refine salloc hS Try.zeroValue38 rfl ?_; clear hS; intro b10 w hS
  refine sv (yAsg rfl) ?_
  refine nil ?_
  show Code.wp _ _ _ _ _
  refine seq ?_
  refine region ?_
  refine sv (yLdBA rfl Try.isAgg24 Try.sizeOf24 (hS.at _) rfl rfl) ?_
  refine scall Try.call20 (.cons rfl .nil) (c_rCheck (ht.ext hS.ext)) ?_
  rintro _ w ⟨rfl, hE⟩; replace hS := hS.step hE; clear hE
  refine sv (yMove rfl) ?_
  refine sv (yExt rfl rfl) ?_
  refine sv (yExt rfl rfl) ?_
  refine sv (yAsg rfl) ?_
  refine sv (yAsg rfl) ?_
  refine nil ?_
  show Code.wp _ _ _ _ _
  refine seq ?_
  refine seq ?_
  refine region ?_
  refine sv (yMove rfl) ?_
  refine sv (yNeq rfl rfl) ?_
  refine nil ?_
  show Code.wp _ _ _ _ _
  refine cond rfl (fun c22 => ?_) (fun c22 => ?_)
  ·
    simp only [Bool.and_eq_true, Bool.or_eq_true, Bool.and_eq_false_iff, Bool.or_eq_false_iff, decide_eq_true_eq, decide_eq_false_iff_not, Bool.not_eq_true, Bool.not_eq_false, Bool.not_not, Bool.not_eq_eq_eq_not, Bool.not_true, Bool.not_false, Bool.false_eq_true, Bool.true_eq_false, ne_eq, Decidable.not_not, not_false_eq_true, not_true_eq_false] at c22
    have hfin : residF t l wrong tick now = (⟨0, 0⟩, (checkT t).2) := by unfold residF; rw [if_pos c22]
    refine seq ?_
    refine region ?_
    refine sv (yBuild Try.zeroValue38 rfl pl38 .nil rfl) ?_
    refine sv (yMove rfl) ?_
    refine sst hS rfl rfl Try.sizeOf38 rfl rfl rfl rfl ?_; clear hS; intro w hS
    refine sv (yAsg rfl) ?_
    refine nil ?_
    show Code.wp _ _ _ _ _
    refine wp_ret (thenR ?_)
    exact retV (resV2 rfl (rc rfl Try.isAgg38 Try.sizeOf38 (hS.at _) (by rw [hfin]; rfl) rfl) (rt (eqI (by rw [hfin])))) hS.ext
  ·
    simp only [Bool.and_eq_true, Bool.or_eq_true, Bool.and_eq_false_iff, Bool.or_eq_false_iff, decide_eq_true_eq, decide_eq_false_iff_not, Bool.not_eq_true, Bool.not_eq_false, Bool.not_not, Bool.not_eq_eq_eq_not, Bool.not_true, Bool.not_false, Bool.false_eq_true, Bool.true_eq_false, ne_eq, Decidable.not_not, not_false_eq_true, not_true_eq_false] at c22
    have hok := tableOk_of c22
    refine skip ?_
    show Code.wp _ _ _ _ _
    refine seq ?_
    refine region ?_
    refine sv (yMove rfl) ?_
    refine sv (yMove rfl) ?_
    refine sv (yMove rfl) ?_
    refine sv (yMove rfl) ?_
    refine scall Try.call38 (.cons rfl (.cons rfl (.cons rfl (.cons rfl .nil)))) (c_rSound (hl.ext RGauge.stays hS.ext)) ?_
    rw [← hsq]
    rintro _ w ⟨rfl, hE⟩; replace hS := hS.step hE; clear hE
    refine sv (yMove rfl) ?_
    refine sv (yExt rfl rfl) ?_
    refine sv (yExt rfl rfl) ?_
    refine salloc hS Try.zeroValue38 rfl ?_; clear hS; intro b14 w hS
    refine sst hS rfl rfl Try.sizeOf38 rfl rfl rfl rfl ?_; clear hS; intro w hS
    refine sv (yAsg rfl) ?_
    refine nil ?_
    show Code.wp _ _ _ _ _
    refine seq ?_
    refine seq ?_
    refine region ?_
    refine sv (yMove rfl) ?_
    refine sv (yNeq rfl rfl) ?_
    refine nil ?_
    show Code.wp _ _ _ _ _
    refine cond rfl (fun c34 => ?_) (fun c34 => ?_)
    ·
      simp only [Bool.and_eq_true, Bool.or_eq_true, Bool.and_eq_false_iff, Bool.or_eq_false_iff, decide_eq_true_eq, decide_eq_false_iff_not, Bool.not_eq_true, Bool.not_eq_false, Bool.not_not, Bool.not_eq_eq_eq_not, Bool.not_true, Bool.not_false, Bool.false_eq_true, Bool.true_eq_false, ne_eq, Decidable.not_not, not_false_eq_true, not_true_eq_false] at c34
      have hfin : residF t l wrong tick now = (⟨0, 0⟩, (soundF l wrong tick now).2) := by unfold residF; rw [if_neg (fun h => h c22), if_pos c34]
      refine seq ?_
      refine region ?_
      refine sv (yBuild Try.zeroValue38 rfl pl38 .nil rfl) ?_
      refine sv (yMove rfl) ?_
      refine sst hS rfl rfl Try.sizeOf38 rfl rfl rfl rfl ?_; clear hS; intro w hS
      refine sv (yAsg rfl) ?_
      refine nil ?_
      show Code.wp _ _ _ _ _
      refine wp_ret (thenR ?_)
      exact retV (resV2 rfl (rc rfl Try.isAgg38 Try.sizeOf38 (hS.at _) (by rw [hfin]; rfl) rfl) (rt (eqI (by rw [hfin])))) hS.ext
    ·
      simp only [Bool.and_eq_true, Bool.or_eq_true, Bool.and_eq_false_iff, Bool.or_eq_false_iff, decide_eq_true_eq, decide_eq_false_iff_not, Bool.not_eq_true, Bool.not_eq_false, Bool.not_not, Bool.not_eq_eq_eq_not, Bool.not_true, Bool.not_false, Bool.false_eq_true, Bool.true_eq_false, ne_eq, Decidable.not_not, not_false_eq_true, not_true_eq_false] at c34
      obtain ⟨hE0, htb, hs1, hs2, hs3⟩ := soundF_zero c34
      have hlb := lvlT_bd hok tick
      have hfin : residF t l wrong tick now = (⟨(soundF l wrong tick now).1.lo - (lvlT t tick).hi, (soundF l wrong tick now).1.hi - (lvlT t tick).lo⟩, 0) := by unfold residF; rw [if_neg (fun h => h c22), if_neg (fun h => h c34)]
      refine skip ?_
      show Code.wp _ _ _ _ _
      refine seq ?_
      refine region ?_
      refine sv (yLdBA rfl Try.isAgg24 Try.sizeOf24 (hS.at _) rfl rfl) ?_
      refine sv (yMove rfl) ?_
      refine scall Try.call73 (.cons rfl (.cons rfl .nil)) (c_rlevel (ht.ext hS.ext) hok ⟨by omega, by omega⟩) ?_
      rintro _ w ⟨rfl, hE⟩; replace hS := hS.step hE; clear hE
      refine salloc hS Try.zeroValue38 rfl ?_; clear hS; intro b15 w hS
      refine sst hS rfl rfl Try.sizeOf38 rfl rfl rfl rfl ?_; clear hS; intro w hS
      refine nil ?_
      show Code.wp _ _ _ _ _
      refine seq ?_
      refine region ?_
      refine sv (fa38_0 rfl) ?_
      refine sv (yLdB rfl Try.isAgg3 (hS.at _) rfl) ?_
      refine sv (fa38_1 rfl) ?_
      refine sv (yLdB rfl Try.isAgg3 (hS.at _) rfl) ?_
      refine sv (ySub rfl rfl ⟨by omega, by omega⟩) ?_
      refine sv (fa38_1 rfl) ?_
      refine sv (yLdB rfl Try.isAgg3 (hS.at _) rfl) ?_
      refine sv (fa38_0 rfl) ?_
      refine sv (yLdB rfl Try.isAgg3 (hS.at _) rfl) ?_
      refine sv (ySub rfl rfl ⟨by omega, by omega⟩) ?_
      refine sv (yBuild Try.zeroValue38 rfl pl38 (.cons rfl rfl (.cons rfl rfl .nil)) rfl) ?_
      refine sst hS rfl rfl Try.sizeOf38 rfl rfl rfl rfl ?_; clear hS; intro w hS
      refine sv (yAsg rfl) ?_
      refine nil ?_
      show Code.wp _ _ _ _ _
      refine wp_ret ?_
      exact retV (resV2 rfl (rc rfl Try.isAgg38 Try.sizeOf38 (hS.at _) (by rw [hfin]; rfl) rfl) (rt (eqI (by rw [hfin])))) hS.ext
end Go.Proofs.Ytpgmehignepidaa
/- part Wk37 -/
namespace Go.Proofs.Ytpgmehignepidaa
open Go Bx
set_option maxHeartbeats 2000000 in
/-- barrage/barragelaw01.TideResiduals -/
theorem w_TideResiduals {t : Table} {cs : List Value} {l : List Gauge} {v : Value} {xs : List Value} {x : At} {w0 : World} (ht : RTable w0 cs t) (hl : Sl w0 5 RGauge v l) (hx : RAt w0 xs x) : CV Try.prog 14 #[.agg cs.toArray, v, .agg xs.toArray] w0 (.bool true) := by
  obtain ⟨cv, rfl, hmean, hsl⟩ := id ht
  obtain ⟨wrong, tick, now⟩ := x
  replace hx : xs = [.int .i64 wrong, .int .i64 tick, .int .i64 now] ∧ I64 wrong ∧ I64 tick ∧ I64 now := hx
  obtain ⟨rfl, hw, hti, hn⟩ := hx
  refine enter Try.func14 rfl Try.ntmps14 rfl ?_
  have hS := St.start w0
  refine seq ?_
  refine region ?_
  refine sbox hS rfl rfl ?_; clear hS; intro b3 w hS
  refine sbox hS rfl rfl ?_; clear hS; intro b5 w hS
  refine sv (yAsg rfl) ?_
  refine nil ?_
  show Code.wp _ _ _ _ _
  refine seq ?_
  refine region ?_
  refine sv (yLdBA rfl Try.isAgg24 Try.sizeOf24 (hS.at _) rfl rfl) ?_
  refine sv (yMove rfl) ?_
  refine sv (fa68_0 rfl) ?_
  refine sv (yLdB rfl Try.isAgg3 (hS.at _) rfl) ?_
  refine sv (fa68_1 rfl) ?_
  refine sv (yLdB rfl Try.isAgg3 (hS.at _) rfl) ?_
  refine sv (fa68_2 rfl) ?_
  refine sv (yLdB rfl Try.isAgg3 (hS.at _) rfl) ?_
  refine scall Try.call44 (.cons rfl (.cons rfl (.cons rfl (.cons rfl (.cons rfl .nil))))) (c_Residual (ht.ext hS.ext) (hl.ext RGauge.stays hS.ext) hw hti hn) ?_
  rintro _ w ⟨rfl, hE⟩; replace hS := hS.step hE; clear hE
  refine sv (yMove rfl) ?_
  refine sv (yExt rfl rfl) ?_
  refine sv (yExt rfl rfl) ?_
  refine salloc hS Try.zeroValue38 rfl ?_; clear hS; intro b7 w hS
  refine sst hS rfl rfl Try.sizeOf38 rfl rfl rfl rfl ?_; clear hS; intro w hS
  refine sv (yAsg rfl) ?_
  refine nil ?_
  show Code.wp _ _ _ _ _
  refine seq ?_
  refine region ?_
  refine sv (yLdBA rfl Try.isAgg24 Try.sizeOf24 (hS.at _) rfl rfl) ?_
  refine sv (yMove rfl) ?_
  refine sv (fa68_0 rfl) ?_
  refine sv (yLdB rfl Try.isAgg3 (hS.at _) rfl) ?_
  refine sv (fa68_1 rfl) ?_
  refine sv (yLdB rfl Try.isAgg3 (hS.at _) rfl) ?_
  refine sv (fa68_2 rfl) ?_
  refine sv (yLdB rfl Try.isAgg3 (hS.at _) rfl) ?_
  refine scall Try.call45 (.cons rfl (.cons rfl (.cons rfl (.cons rfl (.cons rfl .nil))))) (c_rResidual (ht.ext hS.ext) (hl.ext RGauge.stays hS.ext) hw hti hn) ?_
  rintro _ w ⟨rfl, hE⟩; replace hS := hS.step hE; clear hE
  refine sv (yMove rfl) ?_
  refine sv (yExt rfl rfl) ?_
  refine sv (yExt rfl rfl) ?_
  refine salloc hS Try.zeroValue38 rfl ?_; clear hS; intro b9 w hS
  refine sst hS rfl rfl Try.sizeOf38 rfl rfl rfl rfl ?_; clear hS; intro w hS
  refine sv (yAsg rfl) ?_
  refine nil ?_
  show Code.wp _ _ _ _ _
  refine seq ?_
  refine region ?_
  refine sv (yLdBA rfl Try.isAgg38 Try.sizeOf38 (hS.at _) rfl rfl) ?_
  refine sv (yLdBA rfl Try.isAgg38 Try.sizeOf38 (hS.at _) rfl rfl) ?_
  refine sv (eqS38 rfl rfl) ?_
  refine sv (yMove rfl) ?_
  refine sg rfl rfl rfl (fun g => (yMove rfl)) (fun v39 g39 => ?_)
  refine sg rfl rfl rfl (fun g => (yMove rfl)) (fun v40 g40 => ?_)
  refine sg rfl rfl rfl (fun g => (yEql (g39.1 g) (g40.1 g))) (fun v41 g41 => ?_)
  refine sv (yAnd rfl (fun hB => (g41.1 hB)) rfl) ?_
  refine sv (yMove rfl) ?_
  refine sgc hS rfl rfl rfl Try.call23 (fun g => .nil) (fun g => c_Awake) ?_; clear hS; intro v44 w hS g44
  refine sv (yAnd rfl (fun hB => (g44.1 hB)) rfl) ?_
  refine sv (yAsg rfl) ?_
  refine nil ?_
  show Code.wp _ _ _ _ _
  refine wp_ret ?_
  exact retV (res1 rfl (eqB (by simp))) hS.ext
set_option maxHeartbeats 4000000 in
/-- barrage/barragelaw01.TideDiffers -/
theorem w_TideDiffers {t : Table} {cs : List Value} {l : List Gauge} {v : Value} {xs : List Value} {x : Two} {w0 : World} (ht : RTable w0 cs t) (hl : Sl w0 5 RGauge v l) (hx : RTwo w0 xs x) : CV Try.prog 15 #[.agg cs.toArray, v, .agg xs.toArray] w0 (.bool true) := by
  obtain ⟨cv, rfl, hmean, hsl⟩ := id ht
  obtain ⟨⟨wrong, tick, now⟩, xa, xb⟩ := x
  replace hx : xs = [.int .i64 wrong, .int .i64 tick, .int .i64 now, .int .u8 xa, .int .u8 xb] ∧ I64 wrong ∧ I64 tick ∧ I64 now ∧ Bd xa 0 255 ∧ Bd xb 0 255 := hx
  obtain ⟨rfl, hw, hti, hn, hxa, hxb⟩ := hx
  refine enter Try.func15 rfl Try.ntmps15 rfl ?_
  have hS := St.start w0
  refine seq ?_
  refine region ?_
  refine sbox hS rfl rfl ?_; clear hS; intro b3 w hS
  refine sbox hS rfl rfl ?_; clear hS; intro b5 w hS
  refine sv (yAsg rfl) ?_
  refine nil ?_
  show Code.wp _ _ _ _ _
  refine seq ?_
  refine region ?_
  refine sv (yLdBA rfl Try.isAgg24 Try.sizeOf24 (hS.at _) rfl rfl) ?_
  refine sv (yMove rfl) ?_
  refine sv (fa84_0 rfl) ?_
  refine sv (fa68_0 rfl) ?_
  refine sv (yLdB rfl Try.isAgg3 (hS.at _) rfl) ?_
  refine sv (fa84_0 rfl) ?_
  refine sv (fa68_1 rfl) ?_
  refine sv (yLdB rfl Try.isAgg3 (hS.at _) rfl) ?_
  refine sv (fa84_0 rfl) ?_
  refine sv (fa68_2 rfl) ?_
  refine sv (yLdB rfl Try.isAgg3 (hS.at _) rfl) ?_
  refine scall Try.call44 (.cons rfl (.cons rfl (.cons rfl (.cons rfl (.cons rfl .nil))))) (c_Residual (ht.ext hS.ext) (hl.ext RGauge.stays hS.ext) hw hti hn) ?_
  rintro _ w ⟨rfl, hE⟩; replace hS := hS.step hE; clear hE
  refine sv (yMove rfl) ?_
  refine sv (yExt rfl rfl) ?_
  refine sv (yExt rfl rfl) ?_
  refine salloc hS Try.zeroValue38 rfl ?_; clear hS; intro b7 w hS
  refine sst hS rfl rfl Try.sizeOf38 rfl rfl rfl rfl ?_; clear hS; intro w hS
  refine sv (yAsg rfl) ?_
  refine nil ?_
  show Code.wp _ _ _ _ _
  refine seq ?_
  refine region ?_
  refine sv (yMove rfl) ?_
  refine sv (fa84_0 rfl) ?_
  refine sv (fa68_0 rfl) ?_
  refine sv (yLdB rfl Try.isAgg3 (hS.at _) rfl) ?_
  refine sv (fa84_0 rfl) ?_
  refine sv (fa68_1 rfl) ?_
  refine sv (yLdB rfl Try.isAgg3 (hS.at _) rfl) ?_
  refine sv (fa84_0 rfl) ?_
  refine sv (fa68_2 rfl) ?_
  refine sv (yLdB rfl Try.isAgg3 (hS.at _) rfl) ?_
  refine scall Try.call37 (.cons rfl (.cons rfl (.cons rfl (.cons rfl .nil)))) (c_Sound (hl.ext RGauge.stays hS.ext) hw hti hn) ?_
  rintro _ w ⟨rfl, hE⟩; replace hS := hS.step hE; clear hE
  refine sv (yMove rfl) ?_
  refine sv (yExt rfl rfl) ?_
  refine sv (yExt rfl rfl) ?_
  refine salloc hS Try.zeroValue38 rfl ?_; clear hS; intro b9 w hS
  refine sst hS rfl rfl Try.sizeOf38 rfl rfl rfl rfl ?_; clear hS; intro w hS
  refine sv (yAsg rfl) ?_
  refine nil ?_
  show Code.wp _ _ _ _ _
  refine seq ?_
  refine region ?_
  refine sv (yLdBA rfl Try.isAgg24 Try.sizeOf24 (hS.at _) rfl rfl) ?_
  refine sv (fa84_0 rfl) ?_
  refine sv (fa68_1 rfl) ?_
  refine sv (yLdB rfl Try.isAgg3 (hS.at _) rfl) ?_
  refine scall Try.call28 (.cons rfl (.cons rfl .nil)) (c_Level (ht.ext hS.ext) hti) ?_
  rintro _ w ⟨rfl, hE⟩; replace hS := hS.step hE; clear hE
  refine sv (yMove rfl) ?_
  refine sv (yExt rfl rfl) ?_
  refine sv (yExt rfl rfl) ?_
  refine salloc hS Try.zeroValue38 rfl ?_; clear hS; intro b11 w hS
  refine sst hS rfl rfl Try.sizeOf38 rfl rfl rfl rfl ?_; clear hS; intro w hS
  refine sv (yAsg rfl) ?_
  refine nil ?_
  show Code.wp _ _ _ _ _
  refine seq ?_
  refine seq ?_
  refine region ?_
  refine sv (yMove rfl) ?_
  refine sv (yNeq rfl rfl) ?_
  refine nil ?_
  show Code.wp _ _ _ _ _
  refine cond rfl (fun c53 => ?_) (fun c53 => ?_)
  ·
    simp only [Bool.and_eq_true, Bool.or_eq_true, Bool.and_eq_false_iff, Bool.or_eq_false_iff, decide_eq_true_eq, decide_eq_false_iff_not, Bool.not_eq_true, Bool.not_eq_false, Bool.not_not, Bool.not_eq_eq_eq_not, Bool.not_true, Bool.not_false, Bool.false_eq_true, Bool.true_eq_false, ne_eq, Decidable.not_not, not_false_eq_true, not_true_eq_false] at c53
    have hor : (soundF l wrong tick now).2 ≠ 0 ∨ (levelF t tick).2 ≠ 0 := by
      refine Classical.byContradiction fun hn2 => c53 (resid_e.2 ⟨?_, ?_⟩)
      · exact Decidable.byContradiction fun k => hn2 (.inr (by unfold levelF; rw [if_pos k]; exact k))
      · exact Decidable.byContradiction fun k => hn2 (.inl k)
    refine seq ?_
    refine region ?_
    refine sv (yMove rfl) ?_
    refine sv (yNeq rfl rfl) ?_
    refine sv (yMove rfl) ?_
    refine sg rfl rfl rfl (fun g => (yMove rfl)) (fun v57 g57 => ?_)
    refine sg rfl rfl rfl (fun g => (yNeq (g57.1 g) rfl)) (fun v58 g58 => ?_)
    refine sv (yOr rfl rfl (fun hB => (g58.1 hB))) ?_
    refine sv (yMove rfl) ?_
    refine sgc hS rfl rfl rfl Try.call23 (fun g => .nil) (fun g => c_Awake) ?_; clear hS; intro v61 w hS g61
    refine sv (yAnd rfl (fun hB => (g61.1 hB)) rfl) ?_
    refine sv (yAsg rfl) ?_
    refine nil ?_
    show Code.wp _ _ _ _ _
    refine wp_ret (thenR ?_)
    exact retV (res1 rfl (eqB (by simpa using hor))) hS.ext
  ·
    simp only [Bool.and_eq_true, Bool.or_eq_true, Bool.and_eq_false_iff, Bool.or_eq_false_iff, decide_eq_true_eq, decide_eq_false_iff_not, Bool.not_eq_true, Bool.not_eq_false, Bool.not_not, Bool.not_eq_eq_eq_not, Bool.not_true, Bool.not_false, Bool.false_eq_true, Bool.true_eq_false, ne_eq, Decidable.not_not, not_false_eq_true, not_true_eq_false] at c53
    obtain ⟨hC, hS0⟩ := resid_e.1 c53
    obtain ⟨hE0, htb, hs1, hs2, hs3⟩ := soundF_zero hS0
    have hok := tableOk_of hC
    have hlb := lvlT_bd hok tick
    have hll := lvlT_le hok tick
    have hLp := levelF_ok hC htb
    have hR : residF t l wrong tick now = (⟨(soundF l wrong tick now).1.lo - (lvlT t tick).hi, (soundF l wrong tick now).1.hi - (lvlT t tick).lo⟩, 0) := by unfold residF; rw [if_neg (fun h => h hC), if_neg (fun h => h hS0)]
    rw [hLp, hR] at hS
    dsimp only [spanC] at hS
    have hpa := part255 hs1 hxa
    have hpb := part255 hll hxb
    have hm1 : 0 ≤ ((soundF l wrong tick now).1.hi - (soundF l wrong tick now).1.lo) * xa := Int.mul_nonneg (by omega) hxa.1
    have hm2 : ((soundF l wrong tick now).1.hi - (soundF l wrong tick now).1.lo) * xa ≤ ((soundF l wrong tick now).1.hi - (soundF l wrong tick now).1.lo) * 255 := Int.mul_le_mul_of_nonneg_left hxa.2 (by omega)
    have hm3 : 0 ≤ ((lvlT t tick).hi - (lvlT t tick).lo) * xb := Int.mul_nonneg (by omega) hxb.1
    have hm4 : ((lvlT t tick).hi - (lvlT t tick).lo) * xb ≤ ((lvlT t tick).hi - (lvlT t tick).lo) * 255 := Int.mul_le_mul_of_nonneg_left hxb.2 (by omega)
    refine skip ?_
    show Code.wp _ _ _ _ _
    refine seq ?_
    refine region_draw mixed (by kernel_rfl) hS ?_
    refine qv (fun w hS => (fa38_0 rfl)) ?_
    refine qv (fun w hS => (yLdB rfl Try.isAgg3 (hS.at _) rfl)) ?_
    refine qv (fun w hS => (fa38_1 rfl)) ?_
    refine qv (fun w hS => (yLdB rfl Try.isAgg3 (hS.at _) rfl)) ?_
    refine qv (fun w hS => (fa38_0 rfl)) ?_
    refine qv (fun w hS => (yLdB rfl Try.isAgg3 (hS.at _) rfl)) ?_
    refine qv (fun w hS => (ySub rfl rfl ⟨by omega, by omega⟩)) ?_
    refine qv (fun w hS => (fa84_1 rfl)) ?_
    refine qv (fun w hS => (yLdB rfl Try.isAgg5 (hS.at _) rfl)) ?_
    refine qv (fun w hS => (yToI rfl Try.underlying5 Try.underlying3 ⟨by omega, by omega⟩)) ?_
    refine qv (fun w hS => (yMul rfl rfl ⟨by omega, by omega⟩)) ?_
    refine qv (fun w hS => (yQuoP rfl rfl ⟨by omega, by omega⟩ (by omega))) ?_
    refine qv (fun w hS => (yAdd rfl rfl ⟨by omega, by omega⟩)) ?_
    refine qv (fun w hS => (fa38_0 rfl)) ?_
    refine qv (fun w hS => (yLdB rfl Try.isAgg3 (hS.at _) rfl)) ?_
    refine qv (fun w hS => (fa38_1 rfl)) ?_
    refine qv (fun w hS => (yLdB rfl Try.isAgg3 (hS.at _) rfl)) ?_
    refine qv (fun w hS => (fa38_0 rfl)) ?_
    refine qv (fun w hS => (yLdB rfl Try.isAgg3 (hS.at _) rfl)) ?_
    refine qv (fun w hS => (ySub rfl rfl ⟨by omega, by omega⟩)) ?_
    refine qv (fun w hS => (fa84_2 rfl)) ?_
    refine qv (fun w hS => (yLdB rfl Try.isAgg5 (hS.at _) rfl)) ?_
    refine qv (fun w hS => (yToI rfl Try.underlying5 Try.underlying3 ⟨by omega, by omega⟩)) ?_
    refine qv (fun w hS => (yMul rfl rfl ⟨by omega, by omega⟩)) ?_
    refine qv (fun w hS => (yQuoP rfl rfl ⟨by omega, by omega⟩ (by omega))) ?_
    refine qv (fun w hS => (yAdd rfl rfl ⟨by omega, by omega⟩)) ?_
    refine qv (fun w hS => (yAsg rfl)) ?_
    refine qv (fun w hS => (yAsg rfl)) ?_
    clear hS; refine qnil (fun w hS => ?_)
    show Code.wp _ _ _ _ _
    refine seq ?_
    refine region ?_
    refine sv (yMove rfl) ?_
    refine sv (yEql rfl rfl) ?_
    refine sv (yMove rfl) ?_
    refine sg rfl rfl rfl (fun g => (yMove rfl)) (fun v92 g92 => ?_)
    refine sg rfl rfl rfl (fun g => (yEql (g92.1 g) rfl)) (fun v93 g93 => ?_)
    refine sv (yAnd rfl (fun hB => (g93.1 hB)) rfl) ?_
    refine sv (yMove rfl) ?_
    refine sg rfl rfl rfl (fun g => (yLdBA rfl Try.isAgg38 Try.sizeOf38 (hS.at _) rfl rfl)) (fun v96 g96 => ?_)
    refine sg rfl rfl rfl (fun g => (yMove rfl)) (fun v97 g97 => ?_)
    refine sg rfl rfl rfl (fun g => (yMove rfl)) (fun v98 g98 => ?_)
    refine sg rfl rfl rfl (fun g => (ySub (g97.1 g) (g98.1 g) ⟨by omega, by omega⟩)) (fun v99 g99 => ?_)
    refine sgc hS rfl rfl rfl Try.call29 (fun g => (.cons (g96.1 g) (.cons (g99.1 g) .nil))) (fun g => (c_has (s := ⟨(soundF l wrong tick now).1.lo - (lvlT t tick).hi, (soundF l wrong tick now).1.hi - (lvlT t tick).lo⟩))) ?_; clear hS; intro v100 w hS g100
    refine sv (yAnd rfl (fun hB => (g100.1 hB)) rfl) ?_
    refine sv (yMove rfl) ?_
    refine sg rfl rfl rfl (fun g => (fa38_1 rfl)) (fun v103 g103 => ?_)
    refine sg rfl rfl rfl (fun g => (yLdB (g103.1 g) Try.isAgg3 (hS.at _) rfl)) (fun v104 g104 => ?_)
    refine sg rfl rfl rfl (fun g => (fa38_0 rfl)) (fun v105 g105 => ?_)
    refine sg rfl rfl rfl (fun g => (yLdB (g105.1 g) Try.isAgg3 (hS.at _) rfl)) (fun v106 g106 => ?_)
    refine sg rfl rfl rfl (fun g => (ySub (g104.1 g) (g106.1 g) ⟨by omega, by omega⟩)) (fun v107 g107 => ?_)
    refine sg rfl rfl rfl (fun g => (fa38_1 rfl)) (fun v108 g108 => ?_)
    refine sg rfl rfl rfl (fun g => (yLdB (g108.1 g) Try.isAgg3 (hS.at _) rfl)) (fun v109 g109 => ?_)
    refine sg rfl rfl rfl (fun g => (fa38_0 rfl)) (fun v110 g110 => ?_)
    refine sg rfl rfl rfl (fun g => (yLdB (g110.1 g) Try.isAgg3 (hS.at _) rfl)) (fun v111 g111 => ?_)
    refine sg rfl rfl rfl (fun g => (ySub (g109.1 g) (g111.1 g) ⟨by omega, by omega⟩)) (fun v112 g112 => ?_)
    refine sg rfl rfl rfl (fun g => (fa38_1 rfl)) (fun v113 g113 => ?_)
    refine sg rfl rfl rfl (fun g => (yLdB (g113.1 g) Try.isAgg3 (hS.at _) rfl)) (fun v114 g114 => ?_)
    refine sg rfl rfl rfl (fun g => (yAdd (g112.1 g) (g114.1 g) ⟨by omega, by omega⟩)) (fun v115 g115 => ?_)
    refine sg rfl rfl rfl (fun g => (fa38_0 rfl)) (fun v116 g116 => ?_)
    refine sg rfl rfl rfl (fun g => (yLdB (g116.1 g) Try.isAgg3 (hS.at _) rfl)) (fun v117 g117 => ?_)
    refine sg rfl rfl rfl (fun g => (ySub (g115.1 g) (g117.1 g) ⟨by omega, by omega⟩)) (fun v118 g118 => ?_)
    refine sg rfl rfl rfl (fun g => (yEql (g107.1 g) (g118.1 g))) (fun v119 g119 => ?_)
    refine sv (yAnd rfl (fun hB => (g119.1 hB)) rfl) ?_
    refine sv (yMove rfl) ?_
    refine sgc hS rfl rfl rfl Try.call23 (fun g => .nil) (fun g => c_Awake) ?_; clear hS; intro v122 w hS g122
    refine sv (yAnd rfl (fun hB => (g122.1 hB)) rfl) ?_
    refine sv (yAsg rfl) ?_
    refine nil ?_
    show Code.wp _ _ _ _ _
    refine wp_ret ?_
    exact retV (res1 rfl (eqB (by rw [hS0, hLp]; simp [hasB]; omega))) hS.ext
end Go.Proofs.Ytpgmehignepidaa
/- part Wk38 -/
namespace Go.Proofs.Ytpgmehignepidaa
open Go Bx
/-- slices.IndexFunc   barrage/api.Span,barrage/api.Span  -/
theorem c_IndexFuncS {l : List Span} {p : Span → Bool} {v : Value} {g : Nat} {cl : List Value} {w0 : World} (hsl : Sl w0 2 RSpan v l) (hcall : ∀ ys w, (callFunc g ys).run Try.prog w = .ok (.enter g ys) w) (hp : ∀ x w, x ∈ l → Ext w0 w → CV Try.prog g (.agg (spanC x).toArray :: cl).toArray w (.bool (p x))) : CV Try.prog 110 #[v, .func (.func g) #[] cl.toArray] w0 (.int .i64 (idxF p l 0)) := by
  obtain ⟨a, cap, rfl, hcap, hmx, hel⟩ := hsl
  refine enter Try.func110 rfl Try.ntmps110 rfl ?_
  have hS := St.start w0
  refine seq ?_
  refine region ?_
  refine sv (yAsg rfl) ?_
  refine nil ?_
  show Code.wp _ _ _ _ _
  refine seq ?_
  refine seq ?_
  refine region ?_
  refine sv (yMove rfl) ?_
  refine sv (yLen rfl Try.underlying61) ?_
  refine sv (yMove rfl) ?_
  refine nil ?_
  show Code.wp _ _ _ _ _
  refine block ?_
  refine loop (fun f w zz => ∃ (k : Nat), f 0 = .slice a l.length cap ∧ f 1 = .func (.func g) #[] cl.toArray ∧ f 7 = .int .i64 (l.length : Int) ∧ f 8 = .int .i64 (k : Int) ∧ StX [] w0 w [] ∧ (k ≤ l.length) ∧ (idxF p l 0 = idxF p (l.drop k) k) ∧ zz = l.length - k) _ ⟨_, rfl, 0, rfl, rfl, rfl, rfl, hS, (Nat.zero_le _), (rfl), rfl⟩ ?_
  clear hS
  rintro f w _ ⟨k, h0, h1, h7, h8, hS, hk, hI, rfl⟩
  refine seq ?_
  refine region ?_
  refine sv (yLss h8 h7) ?_
  refine nil ?_
  show Code.wp _ _ _ _ _
  refine seq ?_
  refine cond rfl (fun c9 => ?_) (fun c9 => ?_)
  ·
    simp only [Bool.and_eq_true, Bool.or_eq_true, Bool.and_eq_false_iff, Bool.or_eq_false_iff, decide_eq_true_eq, decide_eq_false_iff_not, Bool.not_eq_true, Bool.not_eq_false, Bool.not_not, Bool.not_eq_eq_eq_not, Bool.not_true, Bool.not_false, Bool.false_eq_true, Bool.true_eq_false, ne_eq, Decidable.not_not, not_false_eq_true, not_true_eq_false] at c9
    refine skip ?_
    show Code.wp _ _ _ _ _
    refine seq ?_
    refine block ?_
    refine seq ?_
    refine region ?_
    refine sv (yMove h8) ?_
    refine sv (yAsg rfl) ?_
    refine nil ?_
    show Code.wp _ _ _ _ _
    refine seq ?_
    refine region ?_
    obtain ⟨x, hx, hd⟩ := drop_of (l := l) (k := k) (by omega)
    obtain ⟨b, o, cs, ha, hlen, hcs, hR⟩ := hel k (by omega)
    obtain rfl : x = l[k] := (List.getElem?_eq_some_iff.1 hx).2.symm
    obtain ⟨rfl, -⟩ := hR
    refine sv (yMove h1) ?_
    refine sv (yMove h0) ?_
    refine sv (yMove rfl) ?_
    refine sv (yIxa rfl ha rfl Try.runUnderlying61 Try.sizeOf38 (by omega) (by omega)) ?_
    refine sv (yLdA rfl Try.isAgg38 Try.sizeOf38 (hcs.ext hS.ext) rfl) ?_
    refine scallf rfl hcall (.cons rfl .nil) (hp _ _ (List.getElem_mem _) hS.ext) ?_
    rintro _ w ⟨rfl, hE⟩; replace hS := hS.step hE; clear hE
    refine nil ?_
    show Code.wp _ _ _ _ _
    refine cond rfl (fun c16 => ?_) (fun c16 => ?_)
    ·
      refine seq ?_
      refine region ?_
      refine sv (yMove rfl) ?_
      refine sv (yAsg rfl) ?_
      refine nil ?_
      show Code.wp _ _ _ _ _
      refine wp_ret (blockR (thenR (thenR (blockR (thenR ?_)))))
      exact retV (res1 rfl (by rw [hI, hd, idxF, if_pos c16]; rfl)) hS.ext
    ·
      refine skip ?_
      show Code.wp _ _ _ _ _
      refine region ?_
      refine sv (yAdd h8 rfl ⟨by omega, by omega⟩) ?_
      refine sv (yMove rfl) ?_
      refine nil ?_
      exact ⟨_, _, rfl, ⟨k + 1, h0, h1, h7, rfl, hS, (by omega), (by rw [hI, hd, idxF, if_neg (by simp [c16])]; rfl), rfl⟩, by omega⟩
  ·
    simp only [Bool.and_eq_true, Bool.or_eq_true, Bool.and_eq_false_iff, Bool.or_eq_false_iff, decide_eq_true_eq, decide_eq_false_iff_not, Bool.not_eq_true, Bool.not_eq_false, Bool.not_not, Bool.not_eq_eq_eq_not, Bool.not_true, Bool.not_false, Bool.false_eq_true, Bool.true_eq_false, ne_eq, Decidable.not_not, not_false_eq_true, not_true_eq_false] at c9
    refine exit ?_
    show Code.wp _ _ _ _ _
    refine seq ?_
    refine region ?_
    refine sv (yAsg rfl) ?_
    refine nil ?_
    show Code.wp _ _ _ _ _
    obtain rfl : k = l.length := by omega
    refine wp_ret ?_
    exact retV (res1 rfl (by rw [hI, List.drop_length]; rfl)) hS.ext
/-- slices.ContainsFunc   barrage/api.Span,barrage/api.Span  -/
theorem c_ContainsFuncS {l : List Span} {p : Span → Bool} {v : Value} {g : Nat} {cl : List Value} {w0 : World} (hsl : Sl w0 2 RSpan v l) (hcall : ∀ ys w, (callFunc g ys).run Try.prog w = .ok (.enter g ys) w) (hp : ∀ x w, x ∈ l → Ext w0 w → CV Try.prog g (.agg (spanC x).toArray :: cl).toArray w (.bool (p x))) : CV Try.prog 88 #[v, .func (.func g) #[] cl.toArray] w0 (.bool (l.any p)) := by
  refine enter Try.func88 rfl Try.ntmps88 rfl ?_
  have hS := St.start w0
  refine seq ?_
  refine region ?_
  refine sv (yAsg rfl) ?_
  refine nil ?_
  show Code.wp _ _ _ _ _
  refine seq ?_
  refine region ?_
  refine sv (yMove rfl) ?_
  refine sv (yMove rfl) ?_
  refine scall Try.call110 (.cons rfl (.cons rfl .nil)) (c_IndexFuncS hsl hcall hp) ?_
  rintro _ w ⟨rfl, hE⟩; replace hS := hS.step hE; clear hE
  refine sv (yGeq rfl rfl) ?_
  refine sv (yAsg rfl) ?_
  refine nil ?_
  show Code.wp _ _ _ _ _
  refine wp_ret ?_
  exact retV (res1 rfl (by rw [← idxF_any p l 0 (Int.le_refl 0)]; rfl)) hS.ext
end Go.Proofs.Ytpgmehignepidaa
/- part Wk39 -/
namespace Go.Proofs.Ytpgmehignepidaa
open Go Bx
/-- barrage/tide.Fit closure 1 -/
theorem c_Fit1 {s : Span} {w0 : World} : CV Try.prog 87 #[.agg (spanC s).toArray] w0 (.bool (noneS s)) := by
  refine enter Try.func87 rfl Try.ntmps87 rfl ?_
  have hS := St.start w0
  refine seq ?_
  refine region ?_
  refine sbox hS rfl rfl ?_; clear hS; intro b1 w hS
  refine sv (yAsg rfl) ?_
  refine nil ?_
  show Code.wp _ _ _ _ _
  refine seq ?_
  refine region ?_
  refine sv (fa38_1 rfl) ?_
  refine sv (yLdB rfl Try.isAgg3 (hS.at _) rfl) ?_
  refine scall Try.call54 (.cons rfl (.cons rfl (.cons rfl .nil))) c_out ?_
  rintro _ w ⟨rfl, hE⟩; replace hS := hS.step hE; clear hE
  refine sv (yMove rfl) ?_
  refine sg rfl rfl rfl (fun g => (fa38_0 rfl)) (fun v7 g7 => ?_)
  refine sg rfl rfl rfl (fun g => (yLdB (g7.1 g) Try.isAgg3 (hS.at _) rfl)) (fun v8 g8 => ?_)
  refine sg rfl rfl rfl (fun g => (fa38_1 rfl)) (fun v9 g9 => ?_)
  refine sg rfl rfl rfl (fun g => (yLdB (g9.1 g) Try.isAgg3 (hS.at _) rfl)) (fun v10 g10 => ?_)
  refine sgc hS rfl rfl rfl Try.call54 (fun g => (.cons (g8.1 g) (.cons rfl (.cons (g10.1 g) .nil)))) (fun g => c_out) ?_; clear hS; intro v11 w hS g11
  refine sv (yOr rfl rfl (fun hB => (g11.1 hB))) ?_
  refine sv (yAsg rfl) ?_
  refine nil ?_
  show Code.wp _ _ _ _ _
  refine wp_ret ?_
  exact retV (res1 rfl rfl) hS.ext
set_option maxHeartbeats 2000000 in
/-- barrage/tide.Fit -/
theorem c_Fit {g : Gauge} {cs : List Value} {q fr : Int} {ks : List Span} {v : Value} {w0 : World} (hg : RGauge w0 cs g) (hk : Sl w0 2 RSpan v ks) (hq : I64 q) (hf : I64 fr) : CV Try.prog 43 #[.agg cs.toArray, .int .i64 q, .int .i64 fr, v] w0 (.tuple #[.agg (spanC (fitF g q fr ks).1).toArray, .int .i64 (fitF g q fr ks).2]) := by
  obtain ⟨dv, rv, rfl, hnm, hge, hgr, hsd, hsr⟩ := id hg
  obtain ⟨a, cap, rfl, hcap, hmx, hel⟩ := id hsd
  obtain ⟨a2, cap2, rfl, hcap2, hmx2, hel2⟩ := id hsr
  obtain ⟨ak, capk, rfl, hcapk, hmxk, helk⟩ := id hk
  refine enter Try.func43 rfl Try.ntmps43 rfl ?_
  have hS := St.start w0
  refine seq ?_
  refine region ?_
  refine sbox hS rfl rfl ?_; clear hS; intro b4 w hS
  refine salloc hS Try.zeroValue38 rfl ?_; clear hS; intro b8 w hS
  refine sv (yAsg rfl) ?_
  refine nil ?_
  show Code.wp _ _ _ _ _
  refine seq ?_
  refine region ?_
  refine sv (yLdBA rfl Try.isAgg34 Try.sizeOf34 (hS.at _) rfl rfl) ?_
  refine scall Try.call24 (.cons rfl .nil) (c_CheckGauge (hg.ext hS.ext)) ?_
  rintro _ w ⟨rfl, hE⟩; replace hS := hS.step hE; clear hE
  refine sv (yMove rfl) ?_
  refine sv (yExt rfl rfl) ?_
  refine sv (yExt rfl rfl) ?_
  refine sv (yExt rfl rfl) ?_
  refine sv (yAsg rfl) ?_
  refine sv (yAsg rfl) ?_
  refine sv (yAsg rfl) ?_
  refine nil ?_
  show Code.wp _ _ _ _ _
  refine seq ?_
  refine block ?_
  refine seq ?_
  refine region ?_
  refine sv (yMove rfl) ?_
  refine sv (yNeq rfl rfl) ?_
  refine sv (yAsg rfl) ?_
  refine nil ?_
  show Code.wp _ _ _ _ _
  refine cond rfl (fun c24 => ?_) (fun c24 => ?_)
  ·
    simp only [Bool.and_eq_true, Bool.or_eq_true, Bool.and_eq_false_iff, Bool.or_eq_false_iff, decide_eq_true_eq, decide_eq_false_iff_not, Bool.not_eq_true, Bool.not_eq_false, Bool.not_not, Bool.not_eq_eq_eq_not, Bool.not_true, Bool.not_false, Bool.false_eq_true, Bool.true_eq_false, ne_eq, Decidable.not_not, not_false_eq_true, not_true_eq_false] at c24
    refine seq ?_
    refine region ?_
    refine sv (yBuild Try.zeroValue38 rfl pl38 .nil rfl) ?_
    refine sv (yMove rfl) ?_
    refine sst hS rfl rfl Try.sizeOf38 rfl rfl rfl rfl ?_; clear hS; intro w hS
    refine sv (yAsg rfl) ?_
    refine nil ?_
    show Code.wp _ _ _ _ _
    have hfin := fitF_e (fitE_1 (q := q) (fr := fr) (ks := ks) c24) c24
    refine wp_ret (blockR (thenR ?_))
    exact retV (resV2 rfl (rc rfl Try.isAgg38 Try.sizeOf38 (hS.at _) (by rw [hfin]; rfl) rfl) (rt (eqI (by rw [hfin])))) hS.ext
  ·
    simp only [Bool.and_eq_true, Bool.or_eq_true, Bool.and_eq_false_iff, Bool.or_eq_false_iff, decide_eq_true_eq, decide_eq_false_iff_not, Bool.not_eq_true, Bool.not_eq_false, Bool.not_not, Bool.not_eq_eq_eq_not, Bool.not_true, Bool.not_false, Bool.false_eq_true, Bool.true_eq_false, ne_eq, Decidable.not_not, not_false_eq_true, not_true_eq_false] at c24
    have hok := gaugeOk_of c24
    have hdl := hok.len
    have hrl := hok.rlen
    have hge := hok.err
    refine seq ?_
    refine region ?_
    refine sv (yMove rfl) ?_
    refine sv (fa34_3 rfl) ?_
    refine sv (yLdB rfl Try.isAgg31 (hS.at _) rfl) ?_
    refine sv (yLen rfl Try.underlying31) ?_
    refine sv (ySub rfl rfl ⟨by omega, by omega⟩) ?_
    refine scall Try.call54 (.cons rfl (.cons rfl (.cons rfl .nil))) c_out ?_
    rintro _ w ⟨rfl, hE⟩; replace hS := hS.step hE; clear hE
    refine sv (yAsg rfl) ?_
    refine nil ?_
    show Code.wp _ _ _ _ _
    refine cond rfl (fun c29 => ?_) (fun c29 => ?_)
    ·
      refine seq ?_
      refine region ?_
      refine sv (yBuild Try.zeroValue38 rfl pl38 .nil rfl) ?_
      refine sst hS rfl rfl Try.sizeOf38 rfl rfl rfl rfl ?_; clear hS; intro w hS
      refine sv (yAsg rfl) ?_
      refine nil ?_
      show Code.wp _ _ _ _ _
      have hfin := fitF_e (fitE_2 (fr := fr) (ks := ks) c24 c29) (by decide)
      refine wp_ret (blockR (thenR ?_))
      exact retV (resV2 rfl (rc rfl Try.isAgg38 Try.sizeOf38 (hS.at _) (by rw [hfin]; rfl) rfl) (rt (eqI (by rw [hfin])))) hS.ext
    ·
      have hqb := outB_false.1 c29
      obtain ⟨qn, rfl⟩ := Int.eq_ofNat_of_zero_le hqb.1
      refine skip ?_
      show Code.wp _ _ _ _ _
      refine seq ?_
      refine seq ?_
      refine region ?_
      refine sv (yMove rfl) ?_
      refine sv (yMove rfl) ?_
      refine sv (yLen rfl Try.underlying61) ?_
      refine scall Try.call74 (.cons rfl (.cons rfl .nil)) c_some ?_
      rintro _ w ⟨rfl, hE⟩; replace hS := hS.step hE; clear hE
      refine sv (yAsg rfl) ?_
      refine nil ?_
      show Code.wp _ _ _ _ _
      refine seq ?_
      refine region ?_
      refine sv (yMove rfl) ?_
      refine sv (yNeq rfl rfl) ?_
      refine nil ?_
      show Code.wp _ _ _ _ _
      refine cond rfl (fun c42 => ?_) (fun c42 => ?_)
      ·
        simp only [Bool.and_eq_true, Bool.or_eq_true, Bool.and_eq_false_iff, Bool.or_eq_false_iff, decide_eq_true_eq, decide_eq_false_iff_not, Bool.not_eq_true, Bool.not_eq_false, Bool.not_not, Bool.not_eq_eq_eq_not, Bool.not_true, Bool.not_false, Bool.false_eq_true, Bool.true_eq_false, ne_eq, Decidable.not_not, not_false_eq_true, not_true_eq_false] at c42
        refine seq ?_
        refine region ?_
        refine sv (yBuild Try.zeroValue38 rfl pl38 .nil rfl) ?_
        refine sv (yMove rfl) ?_
        refine sst hS rfl rfl Try.sizeOf38 rfl rfl rfl rfl ?_; clear hS; intro w hS
        refine sv (yAsg rfl) ?_
        refine nil ?_
        show Code.wp _ _ _ _ _
        have hfin := fitF_e (fitE_3 c24 c29 c42) c42
        refine wp_ret (thenR ?_)
        exact retV (resV2 rfl (rc rfl Try.isAgg38 Try.sizeOf38 (hS.at _) (by rw [hfin]; rfl) rfl) (rt (eqI (by rw [hfin])))) hS.ext
      ·
        simp only [Bool.and_eq_true, Bool.or_eq_true, Bool.and_eq_false_iff, Bool.or_eq_false_iff, decide_eq_true_eq, decide_eq_false_iff_not, Bool.not_eq_true, Bool.not_eq_false, Bool.not_not, Bool.not_eq_eq_eq_not, Bool.not_true, Bool.not_false, Bool.false_eq_true, Bool.true_eq_false, ne_eq, Decidable.not_not, not_false_eq_true, not_true_eq_false] at c42
        have hkn := (someE_zero c42).1
        refine skip ?_
        show Code.wp _ _ _ _ _
        refine seq ?_
        refine region ?_
        refine sv (yAsg rfl) ?_
        refine nil ?_
        show Code.wp _ _ _ _ _
        refine seq ?_
        refine seq ?_
        refine region ?_
        refine sv (yMove rfl) ?_
        refine sv (yMove rfl) ?_
        refine scall Try.call88 (.cons rfl (.cons rfl .nil)) (c_ContainsFuncS (p := noneS) (cl := []) (hk.ext RSpan.stays hS.ext) Try.call87 (fun x w _ _ => c_Fit1)) ?_
        rintro _ w ⟨rfl, hE⟩; replace hS := hS.step hE; clear hE
        refine nil ?_
        show Code.wp _ _ _ _ _
        refine cond rfl (fun c47 => ?_) (fun c47 => ?_)
        ·
          refine seq ?_
          refine region ?_
          refine sv (yBuild Try.zeroValue38 rfl pl38 .nil rfl) ?_
          refine sst hS rfl rfl Try.sizeOf38 rfl rfl rfl rfl ?_; clear hS; intro w hS
          refine sv (yAsg rfl) ?_
          refine nil ?_
          show Code.wp _ _ _ _ _
          have hfin : fitF g qn fr ks = (⟨0, 0⟩, 2) := fitF_e (by rw [fitE_4 c24 c29 c42, if_pos c47]) (by decide)
          refine wp_ret (thenR ?_)
          exact retV (resV2 rfl (rc rfl Try.isAgg38 Try.sizeOf38 (hS.at _) (by rw [hfin]; rfl) rfl) (rt (eqI (by rw [hfin])))) hS.ext
        ·
          have hE0 : fitE g qn fr ks = 0 := by rw [fitE_4 c24 c29 c42, if_neg (by rw [c47]; decide)]
          have hno : ∀ s ∈ ks, noneS s = false := fun s hs => by
            cases hn : noneS s with
            | false => rfl
            | true => exact absurd (List.any_eq_true.2 ⟨s, hs, hn⟩) (by rw [c47]; decide)
          obtain ⟨d, hx, hd⟩ := drop_of (l := g.datums) (k := qn) (by omega)
          obtain ⟨b, o, cs, ha, hlen, hcs, hR⟩ := hel (qn) (by omega)
          obtain rfl : d = g.datums[qn] := (List.getElem?_eq_some_iff.1 hx).2.symm
          generalize g.datums[qn] = d at hx hd hR
          obtain ⟨rfl, hd1, hd2, hd3⟩ := hR
          have hfi : fitI g qn fr ks = fitS g qn fr ks d.shift g.readings := by unfold fitI; rw [Int.toNat_natCast, getD_hit hx]
          refine skip ?_
          show Code.wp _ _ _ _ _
          refine seq ?_
          refine region ?_
          refine sv (fa34_3 rfl) ?_
          refine sv (yLdB rfl Try.isAgg31 (hS.at _) rfl) ?_
          refine sv (yMove rfl) ?_
          refine sv (yIxa rfl ha rfl Try.runUnderlying31 Try.sizeOf78 (by omega) (by omega)) ?_
          refine sv (fa78_1 rfl) ?_
          refine sv (yLdA rfl Try.isAgg38 Try.sizeOf38 ((hcs.mid (xs := spanC d.shift) 1 rfl).ext hS.ext) rfl) ?_
          refine sv (yBuild Try.zeroValue127 rfl pl127 (.cons rfl rfl .nil) rfl) ?_
          refine salloc hS Try.zeroValue127 rfl ?_; clear hS; intro b14 w hS
          refine sst hS rfl rfl Try.sizeOf127 rfl rfl rfl rfl ?_; clear hS; intro w hS
          refine nil ?_
          show Code.wp _ _ _ _ _
          refine seq ?_
          refine seq ?_
          refine region ?_
          refine sv (fa34_4 rfl) ?_
          refine sv (yLdB rfl Try.isAgg32 (hS.at _) rfl) ?_
          refine sv (yLen rfl Try.underlying32) ?_
          refine sv (yMove rfl) ?_
          refine nil ?_
          show Code.wp _ _ _ _ _
          refine block ?_
          refine loop (fun f w zz => ∃ (k : Nat), f 1 = .int .i64 (qn : Int) ∧ f 2 = .int .i64 fr ∧ f 3 = .slice ak ks.length capk ∧ f 4 = .pointer (some ⟨b4, 0, none⟩) ∧ f 8 = .pointer (some ⟨b8, 0, none⟩) ∧ f 14 = .pointer (some ⟨b14, 0, none⟩) ∧ f 57 = .slice a2 g.readings.length cap2 ∧ f 58 = .int .i64 (g.readings.length : Int) ∧ f 59 = .int .i64 (k : Int) ∧ StX [] w0 w [blk b14 (spanC (fitS g qn fr ks d.shift (g.readings.take k))) 127, blk b8 [.int .i64 0, .int .i64 0] 38, blk b4 [.string g.name, .int .i64 g.err, .int .i64 g.rate, .slice a g.datums.length cap, .slice a2 g.readings.length cap2] 34] ∧ (k ≤ g.readings.length) ∧ zz = g.readings.length - k) _ ⟨_, rfl, 0, rfl, rfl, rfl, rfl, rfl, rfl, rfl, rfl, rfl, hS, (Nat.zero_le _), rfl⟩ ?_
          clear hS
          rintro f w _ ⟨k, h1, h2, h3, h4, h8, h14, h57, h58, h59, hS, hkk, rfl⟩
          refine seq ?_
          refine region ?_
          refine sv (yLss h59 h58) ?_
          refine nil ?_
          show Code.wp _ _ _ _ _
          refine seq ?_
          refine cond rfl (fun c60 => ?_) (fun c60 => ?_)
          ·
            simp only [Bool.and_eq_true, Bool.or_eq_true, Bool.and_eq_false_iff, Bool.or_eq_false_iff, decide_eq_true_eq, decide_eq_false_iff_not, Bool.not_eq_true, Bool.not_eq_false, Bool.not_not, Bool.not_eq_eq_eq_not, Bool.not_true, Bool.not_false, Bool.false_eq_true, Bool.true_eq_false, ne_eq, Decidable.not_not, not_false_eq_true, not_true_eq_false] at c60
            obtain ⟨r, hxr, hdr⟩ := drop_of (l := g.readings) (k := k) (by omega)
            obtain ⟨br, or, csr, har, hlenr, hcsr, hRr⟩ := hel2 (k) (by omega)
            obtain rfl : r = g.readings[k] := (List.getElem?_eq_some_iff.1 hxr).2.symm
            generalize g.readings[k] = r at hxr hdr hRr
            obtain ⟨rfl, hr1, hr2⟩ := hRr
            have hro := hok.reads r (List.mem_of_getElem? hxr)
            have hrt := hro.tick
            have hrv := hro.value
            refine skip ?_
            show Code.wp _ _ _ _ _
            refine seq ?_
            refine block ?_
            refine seq ?_
            refine region ?_
            refine sv (yIxa h57 har h59 Try.runUnderlying32 Try.sizeOf103 (by omega) (by omega)) ?_
            refine sv (yLdA rfl Try.isAgg103 Try.sizeOf103 (hcsr.ext hS.ext) rfl) ?_
            refine salloc hS Try.zeroValue103 rfl ?_; clear hS; intro b16 w hS
            refine sst hS rfl rfl Try.sizeOf103 rfl rfl rfl rfl ?_; clear hS; intro w hS
            refine nil ?_
            show Code.wp _ _ _ _ _
            refine seq ?_
            refine region ?_
            refine sv (fa103_0 rfl) ?_
            refine sv (yLdB rfl Try.isAgg3 (hS.at _) rfl) ?_
            refine sv (yMove h2) ?_
            refine sv (ySubW rfl rfl) ?_
            refine sv (yAsg rfl) ?_
            refine nil ?_
            show Code.wp _ _ _ _ _
            refine seq ?_
            refine region ?_
            refine sv (yLdBA h4 Try.isAgg34 Try.sizeOf34 (hS.at _) rfl rfl) ?_
            refine sv (yLdBA rfl Try.isAgg103 Try.sizeOf103 (hS.at _) rfl rfl) ?_
            refine scall Try.call89 (.cons rfl (.cons rfl .nil)) (c_datum (r := r) (hg.ext hS.ext) hok hro.tick.1) ?_
            rintro _ w ⟨rfl, hE⟩; replace hS := hS.step hE; clear hE
            refine sv (yMove h1) ?_
            refine sv (yEql rfl rfl) ?_
            refine sv (yMove rfl) ?_
            refine sg rfl rfl rfl (fun g => (yMove rfl)) (fun v73 g73 => ?_)
            refine sg rfl rfl rfl (fun g => (yMove h3)) (fun v74 g74 => ?_)
            refine sg rfl rfl rfl (fun g => (yLen (g74.1 g) Try.underlying61)) (fun v75 g75 => ?_)
            refine sg rfl rfl rfl (fun g => (ySub (g75.1 g) rfl ⟨by omega, by omega⟩)) (fun v76 g76 => ?_)
            refine sgc hS rfl rfl rfl Try.call54 (fun g => (.cons (g73.1 g) (.cons rfl (.cons (g76.1 g) .nil)))) (fun g => c_out) ?_; clear hS; intro v77 w hS g77
            refine sg rfl rfl rfl (fun g => (yNot (g77.1 g))) (fun v78 g78 => ?_)
            refine sv (yAnd rfl (fun hB => (g78.1 hB)) rfl) ?_
            refine nil ?_
            show Code.wp _ _ _ _ _
            refine cond rfl (fun c79 => ?_) (fun c79 => ?_)
            ·
              change fitB g qn fr ks.length r = _ at c79
              have c79b := c79
              simp only [fitB, Bool.and_eq_true, Bool.not_eq_true', outB_false, decide_eq_true_eq] at c79b
              obtain ⟨j, hj⟩ := Int.eq_ofNat_of_zero_le c79b.2.1
              obtain ⟨s, hxs, hds⟩ := drop_of (l := ks) (k := j) (by omega)
              obtain ⟨bs, os, css, has, hlens, hcss, hRs⟩ := helk (j) (by omega)
              obtain rfl : s = ks[j] := (List.getElem?_eq_some_iff.1 hxs).2.symm
              generalize ks[j] = s at hxs hds hRs
              obtain ⟨rfl, hs1, hs2⟩ := hRs
              have hsb := noneS_iff.1 (hno s (List.mem_of_getElem? hxs))
              refine region_tail mixed 9 (by kernel_rfl) hS ?_
              refine qv (fun w hS => (fa103_1 rfl)) ?_
              refine qv (fun w hS => (yLdB rfl Try.isAgg3 (hS.at _) rfl)) ?_
              refine qv (fun w hS => (fa34_1 h4)) ?_
              refine qv (fun w hS => (yLdB rfl Try.isAgg3 (hS.at _) rfl)) ?_
              refine qv (fun w hS => (yMove h3)) ?_
              refine qv (fun w hS => (yMove rfl)) ?_
              refine qv (fun w hS => (yIxa rfl has (Eq.trans (b := Value.int .i64 (W64 (r.tick - fr))) rfl (by rw [hj])) Try.runUnderlying61 Try.sizeOf38 (by omega) (by omega))) ?_
              refine qv (fun w hS => (yLdA rfl Try.isAgg38 Try.sizeOf38 (hcss.ext hS.ext) rfl)) ?_
              refine qcall Try.call91 (.cons rfl (.cons rfl (.cons rfl .nil))) (fun w hS => (c_around (s := s) ⟨by omega, by omega⟩ ⟨by omega, by omega⟩ ⟨⟨by omega, by omega⟩, ⟨by omega, by omega⟩⟩)) ?_
              clear hS; refine qtl (fun w hS => ?_)
              refine scall Try.call90 (.cons h14 (.cons rfl .nil)) (c_cut (hS.at b14)) ?_; rintro _ w ⟨rfl, hput⟩; replace hS := hS.put hput; clear hput
              refine nil ?_
              show Code.wp _ _ _ _ _
              refine region ?_
              refine sv (yAdd h59 rfl ⟨by omega, by omega⟩) ?_
              refine sv (yMove rfl) ?_
              refine nil ?_
              exact ⟨_, _, rfl, ⟨k + 1, h1, h2, h3, h4, h8, h14, h57, h58, rfl, (by rw [take_snoc hxr, fitS_snoc, fitC, if_pos c79, hj, Int.toNat_natCast, getD_hit hxs]; exact hS.sub (.cons _ (List.Sublist.refl _))), (by omega), rfl⟩, by omega⟩
            ·
              change fitB g qn fr ks.length r = _ at c79
              refine skip ?_
              show Code.wp _ _ _ _ _
              refine region ?_
              refine sv (yAdd h59 rfl ⟨by omega, by omega⟩) ?_
              refine sv (yMove rfl) ?_
              refine nil ?_
              exact ⟨_, _, rfl, ⟨k + 1, h1, h2, h3, h4, h8, h14, h57, h58, rfl, (by rw [take_snoc hxr, fitS_snoc, fitC, if_neg (by rw [c79]; decide)]; exact hS.sub (.cons _ (List.Sublist.refl _))), (by omega), rfl⟩, by omega⟩
          ·
            simp only [Bool.and_eq_true, Bool.or_eq_true, Bool.and_eq_false_iff, Bool.or_eq_false_iff, decide_eq_true_eq, decide_eq_false_iff_not, Bool.not_eq_true, Bool.not_eq_false, Bool.not_not, Bool.not_eq_eq_eq_not, Bool.not_true, Bool.not_false, Bool.false_eq_true, Bool.true_eq_false, ne_eq, Decidable.not_not, not_false_eq_true, not_true_eq_false] at c60
            obtain rfl : k = g.readings.length := by omega
            rw [List.take_length] at hS
            refine exit ?_
            show Code.wp _ _ _ _ _
            refine seq ?_
            refine seq ?_
            refine region ?_
            refine sv (yLdBA h14 Try.isAgg127 Try.sizeOf127 (hS.at _) rfl rfl) ?_
            refine scall Try.call92 (.cons rfl .nil) c_empty ?_
            rintro _ w ⟨rfl, hE⟩; replace hS := hS.step hE; clear hE
            refine nil ?_
            show Code.wp _ _ _ _ _
            refine cond rfl (fun c92 => ?_) (fun c92 => ?_)
            ·
              simp only [Bool.and_eq_true, Bool.or_eq_true, Bool.and_eq_false_iff, Bool.or_eq_false_iff, decide_eq_true_eq, decide_eq_false_iff_not, Bool.not_eq_true, Bool.not_eq_false, Bool.not_not, Bool.not_eq_eq_eq_not, Bool.not_true, Bool.not_false, Bool.false_eq_true, Bool.true_eq_false, ne_eq, Decidable.not_not, not_false_eq_true, not_true_eq_false] at c92
              refine seq ?_
              refine region ?_
              refine sv (yBuild Try.zeroValue38 rfl pl38 .nil rfl) ?_
              refine sst hS h8 rfl Try.sizeOf38 rfl rfl rfl rfl ?_; clear hS; intro w hS
              refine sv (yAsg rfl) ?_
              refine nil ?_
              show Code.wp _ _ _ _ _
              have hfin : fitF g qn fr ks = (⟨0, 0⟩, 9) := by unfold fitF; rw [if_neg (fun h => h hE0), hfi, if_pos c92]
              refine wp_ret (thenR ?_)
              exact retV (resV2 rfl (rc h8 Try.isAgg38 Try.sizeOf38 (hS.at _) (by rw [hfin]; rfl) rfl) (rt (eqI (by rw [hfin])))) hS.ext
            ·
              simp only [Bool.and_eq_true, Bool.or_eq_true, Bool.and_eq_false_iff, Bool.or_eq_false_iff, decide_eq_true_eq, decide_eq_false_iff_not, Bool.not_eq_true, Bool.not_eq_false, Bool.not_not, Bool.not_eq_eq_eq_not, Bool.not_true, Bool.not_false, Bool.false_eq_true, Bool.true_eq_false, ne_eq, Decidable.not_not, not_false_eq_true, not_true_eq_false] at c92
              refine skip ?_
              show Code.wp _ _ _ _ _
              refine seq ?_
              refine region ?_
              refine sv (fa127_0 h14) ?_
              refine sv (yLdBA rfl Try.isAgg38 Try.sizeOf38 (hS.at _) rfl rfl) ?_
              refine sst hS h8 rfl Try.sizeOf38 rfl rfl rfl rfl ?_; clear hS; intro w hS
              refine sv (yAsg rfl) ?_
              refine nil ?_
              show Code.wp _ _ _ _ _
              have hfin : fitF g qn fr ks = (fitS g qn fr ks d.shift g.readings, 0) := by unfold fitF; rw [if_neg (fun h => h hE0), hfi, if_neg (by omega)]
              refine wp_ret ?_
              exact retV (resV2 rfl (rc h8 Try.isAgg38 Try.sizeOf38 (hS.at _) (by rw [hfin]; rfl) rfl) (rt (eqI (by rw [hfin])))) hS.ext
end Go.Proofs.Ytpgmehignepidaa
/- part LibX -/
namespace Bx
open Go Go.RowKit
section
variable {P : Program} {ops : Array Oper} {Q : Exit → Act → World → Prop} {C : World → Prop} {m : Nat} {nf : Nat} {f : Fr} {w : World}
def goB (ops : Array Oper) (m : Nat) (listed : Array Bool) (k : Nat) : Bool :=
  Region.noSelect ops && (Region.ready .any ops listed).contains k && Region.free .any ops listed k && ((List.range ops.size).all fun j => Nat.blt j m || Region.waitsFor .any ops j k)
/-- A free operation is taken first. -/
theorem f_step {fuel : Nat} {listed : Array Bool} {d : Nat} {op : Op} {ty : TypeId} {pos : String} {af : Array Edge} {v : Value} (k : Nat) (hB : goB ops m listed k = true) (hi : ops[k]? = some ⟨some d, op, ty, pos, af, none⟩) (hQ : ∀ c a a' w, Q (.panic c) a w → Q (.panic c) a' w) (hC : C w)
    (hr : ∀ w, C w → Y P (ev nf f) op ty w v w) (h : wpA P ops Q C m fuel (listed.setIfInBounds k true) nf (upd f d v) w) : wpA P ops Q C m (fuel + 1) listed nf f w := by
  simp only [goB, Bool.and_eq_true] at hB
  obtain ⟨⟨⟨hs, hrd⟩, hfr⟩, hlate⟩ := hB
  refine wpAC_first (v := v) hi (Region.noSelect_spec hs) hQ ?_ fuel listed (mk nf f) w hC (Region.free_spec hi hfr) (by simpa using hrd) (.inl ⟨by simp [Region.wanted], fun w hC => ?_⟩) ?_
  · intro j oj hoj hm
    have h1 := List.all_eq_true.1 hlate j (List.mem_range.2 (Array.getElem?_eq_some_iff.1 hoj).1)
    simp only [Bool.or_eq_true, Nat.blt_eq] at h1
    obtain ⟨oj', hoj', e, he, hb, hon⟩ := Region.waitsFor_spec (h1.resolve_left (by omega))
    rw [hoj] at hoj'
    obtain rfl := Option.some.inj hoj'
    exact ⟨e, he, hb, hon⟩
  · rw [mk_eval, execOp_xop, hr w hC]
  · show wpAC P .any ops Q C m fuel (listed.setIfInBounds k true) ((mk nf f).put (some d) v) w
    rw [mk_put]
    exact h
/-- A statement that draws its order, from the start. -/
theorem region_mix {S : List Nat} {w0 : World} {L : List Item} {id : Nat} {l : List Oper} (C : World → Prop) (m : Nat) (hm : P.follows .mixedOrders = true) (hS : StX S w0 w L)
    (h : ∀ w, StX S w0 w L → wpA P l.toArray Q C m l.length (Array.replicate l.length false) nf f w) : (Code.region id l.toArray true).wp P Q (mk nf f) w := by
  refine wp_region_any hm (wpAny_of_AC (C := C) (m := m) _ _ _ _ ?_)
  have := h _ (hS.step (ext_drew w))
  simpa [wpA] using this
end
section
variable {P : Program} {ρ : Operand → Value} {w : World} {ty : TypeId}
/-- A slice from its first k-th part on, shorter than its room. -/
theorem yFrom {T E : TypeId} {x xi : Operand} {b o cap i k m : Nat} {kd : IntKind} (hx : ρ x = .slice (some ⟨b, o, none⟩) m cap) (hi : ρ xi = .int kd (i : Int)) (hu : P.underlying T = some (.slice E)) (hs : ∀ w, (Go.sizeOf E).run P w = .ok k w) (hm : i ≤ m) (hc : i < cap) :
    Y P ρ (.slice T x (some xi) none none) ty w (.slice (some ⟨b, o + i * k, none⟩) (m - i) (cap - i)) w := by
  have hb : (0 : Int) ≤ (i : Int) ∧ (i : Int) ≤ (m : Int) := ⟨by omega, by omega⟩
  have h1 : (⟨b, o, none⟩ : Addr).add (i * k) = ⟨b, o + i * k, none⟩ := addr_add ..
  have h2 : ¬ cap = i := by omega
  simp only [Y, xop, execOp, Option.map_some, Option.map_none, hx, hi, Instr.sliceAt, run_underlying hu, Sem.run_bind, Result.andThen_ok, Instr.slice, Instr.sliceBounds, Instr.sliceBound, asIntOf, Sem.run_pure, Sem.run_ite, hb, and_self, if_true, hs, Int.toNat_natCast, h1, h2, if_false]
end
theorem Cells.append {w : World} {b o : Nat} {xs ys : List Value} (h : Cells w b o xs) (k : Cells w b (o + xs.length) ys) : Cells w b o (xs ++ ys) := by
  intro j v hv
  by_cases hj : j < xs.length
  · rw [List.getElem?_append_left hj] at hv; exact h j v hv
  · rw [List.getElem?_append_right (by omega)] at hv
    have := k _ v hv
    rwa [show o + xs.length + (j - xs.length) = o + j by omega] at this
theorem Rows.flen {α : Type} {w : World} {k : Nat} {R : World → List Value → α → Prop} : ∀ {css : List (List Value)} {l : List α}, Bx.Rows w k R css l → css.flatten.length = l.length * k
  | [], [], _ => by simp
  | cs :: css, x :: l, ⟨h1, _, h3⟩ => by
    rw [List.flatten_cons, List.length_append, h1, Rows.flen h3, List.length_cons, Nat.succ_mul]; omega
/-- The parts of a slice, as rows of cells. -/
theorem sl_rows {α : Type} {w : World} {k : Nat} {R : World → List Value → α → Prop} {b o cap : Nat} {l : List α} (h : Sl w k R (.slice (some ⟨b, o, none⟩) l.length cap) l) : ∀ n, n ≤ l.length → ∃ css, Bx.Rows w k R css (l.take n) ∧ Cells w b o css.flatten
  | 0, _ => ⟨[], trivial, fun j v hv => by simp at hv⟩
  | n + 1, hn => by
    obtain ⟨css, h1, h2⟩ := sl_rows h n (by omega)
    obtain ⟨a, c, e, _, _, hel⟩ := h
    obtain ⟨rfl, rfl⟩ := slice_inj e.symm
    obtain ⟨b2, o2, cs, ha, hl, hcs, hR⟩ := hel n (by omega)
    simp only [Option.some.injEq, Addr.mk.injEq, and_true] at ha
    obtain ⟨rfl, rfl⟩ := ha
    refine ⟨css ++ [cs], ?_, ?_⟩
    · rw [take_snoc (List.getElem?_eq_getElem (show n < l.length by omega))]; exact h1.snoc hl hR
    · rw [List.flatten_append, List.flatten_cons, List.flatten_nil, List.append_nil]
      refine h2.append ?_
      rw [h1.flen, List.length_take, Nat.min_eq_left (by omega)]
      exact hcs
theorem sl_tail {α : Type} {w : World} {k : Nat} {R : World → List Value → α → Prop} {b o cap : Nat} {x : α} {l : List α} (h : Sl w k R (.slice (some ⟨b, o, none⟩) (x :: l).length cap) (x :: l)) : Sl w k R (.slice (some ⟨b, o + k, none⟩) l.length (cap - 1)) l := by
  obtain ⟨a, c, e, h1, h2, hel⟩ := h
  obtain ⟨rfl, rfl⟩ := slice_inj e.symm
  simp only [List.length_cons] at h1
  refine ⟨_, _, rfl, by omega, by omega, fun i hi => ?_⟩
  obtain ⟨b2, o2, cs, ha, hl, hcs, hR⟩ := hel (i + 1) (by simp; omega)
  simp only [Option.some.injEq, Addr.mk.injEq, and_true] at ha
  obtain ⟨rfl, rfl⟩ := ha
  refine ⟨b, o + k, cs, rfl, hl, ?_, hR⟩
  rw [Nat.add_assoc, show k + i * k = (i + 1) * k by rw [Nat.succ_mul]; omega]
  exact hcs
section
variable {P : Program} {ops : Array Oper} {Q : Exit → Act → World → Prop} {n : Nat} {f : Fr} {S : List Nat} {w0 w : World} {L : List Item} {rest : List Oper} {d : Nat} {ty : TypeId} {pos : String} {af : Array Edge}
/-- A slice's literal without parts. -/
theorem sbslice0 {T E : TypeId} {sz : Nat} (hS : StX S w0 w L) (hT : P.underlying T = some (.slice E)) (hs : ∀ w, (Go.sizeOf E).run P w = .ok sz w)
    (h : ∀ b w', StX S w0 w' (rowI (.slice (some ⟨b, 0, none⟩) 0 0) E sz 0 [] :: L) → wpL P ops Q n rest (upd f d (.slice (some ⟨b, 0, none⟩) 0 0)) w') : wpL P ops Q n (⟨some d, .buildSlice T 0 #[], ty, pos, af, none⟩ :: rest) f w := by
  have hS2 : StX S w0 (w.alloc (.cells #[] E (0, 0))) (blk w.heap.size [] E :: L) := hS.call1 (St.new w _)
  refine sv (v := .slice (some ⟨w.heap.size, 0, none⟩) 0 0) (w' := w.alloc (.cells #[] E (0, 0))) ?_ (h w.heap.size _ (hS2.toRow sz 0 (by simp) (by decide)))
  simp [Y, xop, execOp, Instr.buildSlice, run_underlying hT, hs, Instr.fill, newRow]
  congr 2
  apply Array.ext' 
  simp
end
section
variable {P : Program} {ops : Array Oper} {Q : Exit → Act → World → Prop} {n : Nat} {f : Fr} {w : World} {rest : List Oper} {dst : Option Nat} {ty : TypeId} {pos : String} {af : Array Edge}
/-- A guarded operation whose guard is known to say yes. -/
theorem ungo {op : Op} {j dj : Nat} {want : Bool} (hd : dstOf ops j = some dj) (hn : Nat.blt dj n = true) (hb : f dj = .bool want) (h : wpL P ops Q n (⟨dst, op, ty, pos, af, none⟩ :: rest) f w) : wpL P ops Q n (⟨dst, op, ty, pos, af, some (j, want)⟩ :: rest) f w := by
  rw [Nat.blt_eq] at hn
  unfold wpL wpList at h ⊢
  rw [if_pos (by simp [Region.wanted])] at h
  rw [if_pos (by simp [Region.wanted, yielded_eq (f := f) hd hn, hb])]
  rcases h with h | h
  · left
    unfold Oper.wp at h ⊢
    rw [execOp_xop] at h ⊢
    exact h
  · right
    refine ⟨?_, h.2⟩
    have := h.1
    unfold Oper.asks at this ⊢
    rw [execOp_xop] at this ⊢
    exact this
end
end Bx
/- part P28 -/
namespace Bx
open Go Go.RowKit
theorem gErrs_of : ∀ {l : List Gauge}, (∀ g ∈ l, (checkG g).2.2 = 0) → gErrs l = 0
  | [], _ => rfl
  | x :: l, h => by rw [gErrs, if_neg (fun k => k (h x (List.mem_cons_self ..)))]; exact gErrs_of fun g hg => h g (List.mem_cons_of_mem _ hg)
theorem gaugesE_perm {l m : List Gauge} {t now : Int} (h : l.Perm m) (hz : gaugesE l t now = 0) : gaugesE m t now = 0 := by
  obtain ⟨h8, _, hnd, htk⟩ := gaugesE_zero hz
  have hck := gauges_checks hz
  have hlen := h.length_eq
  unfold gaugesE
  rw [if_neg (by omega), gErrs_of (fun g hg => hck g (h.mem_iff.2 hg)), if_neg (by simp), if_neg (fun k => k ((h.map _).nodup_iff.1 hnd)), htk]
theorem spans_perm {l m : List Gauge} {t now : Int} (h : l.Perm m) : (spansG t now l).Perm (spansG t now m) := h.flatMap_right _
theorem sortE_eq {E F : List (Int × Int)} (h : E.Perm F) : sortE E = sortE F := by
  have key : ∀ G : List (Int × Int), (sortE G).Pairwise fun x y => (!(ltE y x)) = true := fun G =>
    List.pairwise_mergeSort (le := fun x y => !(ltE y x)) (fun a b c h1 h2 => by
      simp only [Bool.not_eq_true'] at *
      exact ltE_ntrans c b a h2 h1) (fun a b => by
      simp only [Bool.or_eq_true, Bool.not_eq_true']
      by_cases h : ltE b a = true
      · right
        simp only [ltE, decide_eq_true_eq, decide_eq_false_iff_not] at *; omega
      · left; simpa using h) G
  refine List.Perm.eq_of_pairwise (le := fun x y => (!(ltE y x)) = true) ?_ (key E) (key F) (((sortE_perm E).trans h).trans (sortE_perm F).symm)
  intro a b _ _ h1 h2
  simp only [ltE, Bool.not_eq_true', decide_eq_false_iff_not] at h1 h2
  exact Prod.ext (by omega) (by omega)
theorem pieces_perm {l m : List Gauge} {t now : Int} (h : l.Perm m) : piecesF t now l = piecesF t now m := by
  rw [piecesF_S, piecesF_S]
  unfold piecesS
  rw [sortE_eq ((spans_perm h).flatMap_right _)]
theorem soundE_perm {l m : List Gauge} {wrong t now : Int} (h : l.Perm m) (hz : soundE l wrong t now = 0) : soundE m wrong t now = 0 := by
  obtain ⟨hg, hw⟩ := soundE_zero (fun k => k hz)
  have hlen := h.length_eq
  exact soundE_ok (fun k => k (gaugesE_perm h hg)) (outB_false.2 ⟨by omega, by omega⟩)
theorem sound_perm {l m : List Gauge} {wrong t now : Int} (h : l.Perm m) : (soundF l wrong t now).1 = (soundF m wrong t now).1 ∧ ((soundF l wrong t now).2 = 0 ↔ (soundF m wrong t now).2 = 0) := by
  by_cases hz : soundE l wrong t now = 0
  · have hz2 := soundE_perm h hz
    rw [soundF_ok hz, soundF_ok hz2, pieces_perm h, h.length_eq]
    exact ⟨rfl, Iff.rfl⟩
  · have hz2 : soundE m wrong t now ≠ 0 := fun k => hz (soundE_perm h.symm k)
    rw [soundF_e rfl hz, soundF_e rfl hz2]
    exact ⟨rfl, ⟨fun k => absurd k hz, fun k => absurd k hz2⟩⟩
theorem agree_perm {l m : List Gauge} {t now : Int} (h : l.Perm m) : (agreeF l t now).1 = (agreeF m t now).1 ∧ ((agreeF l t now).2.2 = 0 ↔ (agreeF m t now).2.2 = 0) := by
  rw [agree_e, agree_e]
  by_cases hz : gaugesE l t now = 0
  · have hz2 := gaugesE_perm h hz
    rw [agree_ok hz, agree_ok hz2, pieces_perm h]
    exact ⟨rfl, ⟨fun _ => hz2, fun _ => hz⟩⟩
  · have hz2 : gaugesE m t now ≠ 0 := fun k => hz (gaugesE_perm h.symm k)
    have e1 : ∀ {u : List Gauge}, gaugesE u t now ≠ 0 → (agreeF u t now).1 = 0 := fun k => by unfold agreeF; rw [if_pos k]
    rw [e1 hz, e1 hz2]
    exact ⟨rfl, ⟨fun k => absurd k hz, fun k => absurd k hz2⟩⟩
theorem gauge_one {w : World} {cs : List Value} {g : Gauge} (h : RGauge w cs g) : cs.all (·.oneCell') = true := by
  obtain ⟨dv, rv, rfl, _, _, _, ⟨a, c, rfl, _⟩, ⟨a2, c2, rfl, _⟩⟩ := h
  rfl
theorem gauges_one {w : World} : ∀ {css : List (List Value)} {l : List Gauge}, Bx.Rows w 5 RGauge css l → css.flatten.all (·.oneCell') = true
  | [], [], _ => rfl
  | cs :: css, g :: l, ⟨_, h2, h3⟩ => by
    rw [List.flatten_cons, List.all_append, gauge_one h2, gauges_one h3]; rfl
end Bx
/- part Wk41 -/
namespace Go.Proofs.Ytpgmehignepidaa
open Go Bx
set_option maxHeartbeats 4000000 in
/-- barrage/barragelaw01.TideOrders -/
theorem w_TideOrders {l : List Gauge} {v : Value} {xs : List Value} {x : At} {w0 : World} (hl : Sl w0 5 RGauge v l) (hx : RAt w0 xs x) : CV Try.prog 12 #[v, .agg xs.toArray] w0 (.bool true) := by
  obtain ⟨a0, cap, rfl, hcap, hmx, hel⟩ := id hl
  obtain ⟨wrong, t, now⟩ := x
  replace hx : xs = [.int .i64 wrong, .int .i64 t, .int .i64 now] ∧ I64 wrong ∧ I64 t ∧ I64 now := hx
  obtain ⟨rfl, hw, ht, hn⟩ := hx
  refine enter Try.func12 rfl Try.ntmps12 rfl ?_
  have hS := St.start w0
  refine seq ?_
  refine region ?_
  refine sbox hS rfl rfl ?_; clear hS; intro b3 w hS
  refine sv (yAsg rfl) ?_
  refine nil ?_
  show Code.wp _ _ _ _ _
  refine seq ?_
  refine seq ?_
  refine region ?_
  refine sv (yMove rfl) ?_
  refine sv (yLen rfl Try.underlying66) ?_
  refine sv (yLss rfl rfl) ?_
  refine sv (yMove rfl) ?_
  refine sg rfl rfl rfl (fun g => (yMove rfl)) (fun v20 g20 => ?_)
  refine sg rfl rfl rfl (fun g => (yLen (g20.1 g) Try.underlying66)) (fun v21 g21 => ?_)
  refine sg rfl rfl rfl (fun g => (yGtr (g21.1 g) rfl)) (fun v22 g22 => ?_)
  refine sv (yOr rfl rfl (fun hB => (g22.1 hB))) ?_
  refine nil ?_
  show Code.wp _ _ _ _ _
  refine cond rfl (fun c23 => ?_) (fun c23 => ?_)
  ·
    simp only [Bool.and_eq_true, Bool.or_eq_true, Bool.and_eq_false_iff, Bool.or_eq_false_iff, decide_eq_true_eq, decide_eq_false_iff_not, Bool.not_eq_true, Bool.not_eq_false, Bool.not_not, Bool.not_eq_eq_eq_not, Bool.not_true, Bool.not_false, Bool.false_eq_true, Bool.true_eq_false, ne_eq, Decidable.not_not, not_false_eq_true, not_true_eq_false] at c23
    refine seq ?_
    refine region ?_
    refine scall Try.call23 .nil c_Awake ?_
    rintro _ w ⟨rfl, hE⟩; replace hS := hS.step hE; clear hE
    refine sv (yAsg rfl) ?_
    refine nil ?_
    show Code.wp _ _ _ _ _
    refine wp_ret (thenR ?_)
    exact retV (res1 rfl rfl) hS.ext
  ·
    simp only [Bool.and_eq_true, Bool.or_eq_true, Bool.and_eq_false_iff, Bool.or_eq_false_iff, decide_eq_true_eq, decide_eq_false_iff_not, Bool.not_eq_true, Bool.not_eq_false, Bool.not_not, Bool.not_eq_eq_eq_not, Bool.not_true, Bool.not_false, Bool.false_eq_true, Bool.true_eq_false, ne_eq, Decidable.not_not, not_false_eq_true, not_true_eq_false] at c23
    obtain ⟨g, l, rfl⟩ : ∃ g l2, l = g :: l2 := by
      cases l with
      | nil => simp at c23
      | cons g l => exact ⟨g, l, rfl⟩
    simp only [List.length_cons] at c23 hcap
    have hl1 : 1 ≤ l.length ∧ l.length ≤ 7 := by omega
    obtain ⟨bl, ol, cs0, ha0, hl0, hcs0, hR0⟩ := hel 0 (by simp)
    subst ha0
    obtain ⟨dv0, rv0, rfl, hnm0, hge0, hgr0, ⟨ad0, cd0, rfl, -⟩, ⟨ar0, cr0, rfl, -⟩⟩ := id hR0
    rw [Nat.zero_mul, Nat.add_zero] at hcs0
    have hl2 := sl_tail hl
    obtain ⟨css1, hr1, hc1⟩ := sl_rows hl2 l.length (Nat.le_refl _)
    rw [List.take_length] at hr1
    have hf1 := hr1.flen
    have hperm : (g :: l).Perm (l ++ [g]) := (List.perm_append_singleton g l).symm
    have hp1 := sound_perm (wrong := wrong) (t := t) (now := now) hperm
    have hp2 := agree_perm (t := t) (now := now) hperm
    refine skip ?_
    show Code.wp _ _ _ _ _
    refine seqJ (n := 101) (fun f w => ∃ (rv : Value) (css : List (List Value)), f 0 = .slice (some ⟨bl, ol, none⟩) (l.length + 1) cap ∧ f 3 = .pointer (some ⟨b3, 0, none⟩) ∧ f 5 = rv ∧ StX [] w0 w [rowI rv 34 5 (l ++ [g]).length css.flatten, blk b3 [.int .i64 wrong, .int .i64 t, .int .i64 now] 68] ∧ (Bx.Rows w0 5 RGauge css (l ++ [g])) ∧ True) ?_ ?_
    ·
      refine region_mix (fun w => StX [] w0 w []) 10 mixed hS ?_
      clear hS; intro w hS
      refine f_step 1 (by kernel_rfl) rfl (fun c a a' w h => by obtain ⟨_, v, hv, _⟩ := h; cases hv) (hS.sub (List.nil_sublist _)) (fun w hS => (yMove rfl)) ?_
      refine f_step 2 (by kernel_rfl) rfl (fun c a a' w h => by obtain ⟨_, v, hv, _⟩ := h; cases hv) (hS.sub (List.nil_sublist _)) (fun w hS => (yFrom (i := 1) (b := bl) (o := ol) rfl rfl Try.underlying66 Try.sizeOf34 (by simp) (by omega))) ?_
      refine f_step 4 (by kernel_rfl) rfl (fun c a a' w h => by obtain ⟨_, v, hv, _⟩ := h; cases hv) (hS.sub (List.nil_sublist _)) (fun w hS => (yMove rfl)) ?_
      refine f_step 5 (by kernel_rfl) rfl (fun c a a' w h => by obtain ⟨_, v, hv, _⟩ := h; cases hv) (hS.sub (List.nil_sublist _)) (fun w hS => (yIx (m := 0) rfl rfl Try.runUnderlying66 Try.sizeOf34 (by omega) (by simp))) ?_
      refine f_step 6 (by kernel_rfl) rfl (fun c a a' w h => by obtain ⟨_, v, hv, _⟩ := h; cases hv) (hS.sub (List.nil_sublist _)) (fun w hS => (yLdA rfl Try.isAgg34 Try.sizeOf34 (hcs0.ext hS.ext) hl0)) ?_
      show wpA _ _ _ _ _ _ _ _ _ _
      refine a_step (i := 0) (is := [7]) (by kernel_rfl) ⟨?_, ?_, trivial⟩
      ·
        refine ⟨_, rfl, ?_⟩
        refine sbslice0 hS Try.underlying66 Try.sizeOf34 ?_; clear hS; intro b25 w hS
        refine nil ?_
        refine ⟨fun _ => (hS.sub (List.nil_sublist _)), ?_⟩
        show wpA _ _ _ _ _ _ _ _ _ _
        show wpA _ _ _ _ _ _ _ _ _ _
        refine a_step (i := 3) (is := [7]) (by kernel_rfl) ⟨?_, ?_, trivial⟩
        ·
          refine ⟨_, rfl, ?_⟩
          refine sapp (bytes := 80) (size := 5) (v := (.slice (some ⟨b25, 0, none⟩) 0 0)) (m := l.length) hS rfl rfl Try.underlying66 ti34 rfl rfl rfl rfl (by decide) (hc1.ext hS.ext) hf1 (gauges_one hr1) (by omega) (by omega) ?_; clear hS; intro v28 w hS
          refine nil ?_
          refine ⟨fun _ => (hS.sub (List.nil_sublist _)), ?_⟩
          show wpA _ _ _ _ _ _ _ _ _ _
          show wpA _ _ _ _ _ _ _ _ _ _
          refine a_step (i := 7) (is := []) (by kernel_rfl) ⟨?_, trivial⟩
          refine ⟨_, rfl, ?_⟩
          refine sbslice hS Try.underlying66 Try.sizeOf34 rfl Try.zeroValue34 rfl (.cons rfl rfl .nil) rfl ?_; clear hS; intro b32 w hS
          refine nil ?_
          refine ⟨fun _ => (hS.sub (List.nil_sublist _)), ?_⟩
          show wpA _ _ _ _ _ _ _ _ _ _
          show wpA _ _ _ _ _ _ _ _ _ _
          refine a_step (i := 8) (is := []) (by kernel_rfl) ⟨?_, trivial⟩
          refine ⟨_, rfl, ?_⟩
          refine sapp (bytes := 80) (size := 5) (v := v28) (m := 1) hS rfl rfl Try.underlying66 ti34 rfl rfl rfl rfl (by decide) (blk_cells (hS.at _)) rfl rfl (by omega) (by omega) ?_; clear hS; intro v33 w hS
          refine nil ?_
          refine ⟨fun _ => (hS.sub (List.nil_sublist _)), ?_⟩
          show wpA _ _ _ _ _ _ _ _ _ _
          refine f_step 9 (by kernel_rfl) rfl (fun c a a' w h => by obtain ⟨_, v, hv, _⟩ := h; cases hv) (hS.sub (List.nil_sublist _)) (fun w hS => (yAsg rfl)) ?_
          refine a_end (by kernel_rfl) ?_
          exact ⟨_, rfl, _, css1 ++ [[.string g.name, .int .i64 g.err, .int .i64 g.rate, .slice ad0 g.datums.length cd0, .slice ar0 g.readings.length cr0]], rfl, rfl, rfl, (by first | (have h2 := hS.sub (.cons _ (List.Sublist.refl _)); rw [Nat.zero_add, List.nil_append] at h2; rw [flat_snoc, List.length_append]; exact h2) | (have h2 := hS.sub (.cons_cons _ (.cons _ (List.Sublist.refl _))); rw [Nat.zero_add, List.nil_append] at h2; rw [flat_snoc, List.length_append]; exact h2)), (hr1.snoc hl0 hR0), trivial⟩
        ·
          refine ⟨_, rfl, ?_⟩
          refine sbslice hS Try.underlying66 Try.sizeOf34 rfl Try.zeroValue34 rfl (.cons rfl rfl .nil) rfl ?_; clear hS; intro b32 w hS
          refine nil ?_
          refine ⟨fun _ => (hS.sub (List.nil_sublist _)), ?_⟩
          show wpA _ _ _ _ _ _ _ _ _ _
          show wpA _ _ _ _ _ _ _ _ _ _
          refine a_step (i := 3) (is := []) (by kernel_rfl) ⟨?_, trivial⟩
          refine ⟨_, rfl, ?_⟩
          refine sapp (bytes := 80) (size := 5) (v := (.slice (some ⟨b25, 0, none⟩) 0 0)) (m := l.length) hS rfl rfl Try.underlying66 ti34 rfl rfl rfl rfl (by decide) (hc1.ext hS.ext) hf1 (gauges_one hr1) (by omega) (by omega) ?_; clear hS; intro v28 w hS
          refine nil ?_
          refine ⟨fun _ => (hS.sub (List.nil_sublist _)), ?_⟩
          show wpA _ _ _ _ _ _ _ _ _ _
          show wpA _ _ _ _ _ _ _ _ _ _
          refine a_step (i := 8) (is := []) (by kernel_rfl) ⟨?_, trivial⟩
          refine ⟨_, rfl, ?_⟩
          refine sapp (bytes := 80) (size := 5) (v := v28) (m := 1) hS rfl rfl Try.underlying66 ti34 rfl rfl rfl rfl (by decide) (blk_cells (hS.at _)) rfl rfl (by omega) (by omega) ?_; clear hS; intro v33 w hS
          refine nil ?_
          refine ⟨fun _ => (hS.sub (List.nil_sublist _)), ?_⟩
          show wpA _ _ _ _ _ _ _ _ _ _
          refine f_step 9 (by kernel_rfl) rfl (fun c a a' w h => by obtain ⟨_, v, hv, _⟩ := h; cases hv) (hS.sub (List.nil_sublist _)) (fun w hS => (yAsg rfl)) ?_
          refine a_end (by kernel_rfl) ?_
          exact ⟨_, rfl, _, css1 ++ [[.string g.name, .int .i64 g.err, .int .i64 g.rate, .slice ad0 g.datums.length cd0, .slice ar0 g.readings.length cr0]], rfl, rfl, rfl, (by first | (have h2 := hS.sub (.cons _ (List.Sublist.refl _)); rw [Nat.zero_add, List.nil_append] at h2; rw [flat_snoc, List.length_append]; exact h2) | (have h2 := hS.sub (.cons_cons _ (.cons _ (List.Sublist.refl _))); rw [Nat.zero_add, List.nil_append] at h2; rw [flat_snoc, List.length_append]; exact h2)), (hr1.snoc hl0 hR0), trivial⟩
      ·
        refine ⟨_, rfl, ?_⟩
        refine sbslice hS Try.underlying66 Try.sizeOf34 rfl Try.zeroValue34 rfl (.cons rfl rfl .nil) rfl ?_; clear hS; intro b32 w hS
        refine nil ?_
        refine ⟨fun _ => (hS.sub (List.nil_sublist _)), ?_⟩
        show wpA _ _ _ _ _ _ _ _ _ _
        show wpA _ _ _ _ _ _ _ _ _ _
        refine a_step (i := 0) (is := []) (by kernel_rfl) ⟨?_, trivial⟩
        refine ⟨_, rfl, ?_⟩
        refine sbslice0 hS Try.underlying66 Try.sizeOf34 ?_; clear hS; intro b25 w hS
        refine nil ?_
        refine ⟨fun _ => (hS.sub (List.nil_sublist _)), ?_⟩
        show wpA _ _ _ _ _ _ _ _ _ _
        show wpA _ _ _ _ _ _ _ _ _ _
        refine a_step (i := 3) (is := []) (by kernel_rfl) ⟨?_, trivial⟩
        refine ⟨_, rfl, ?_⟩
        refine sapp (bytes := 80) (size := 5) (v := (.slice (some ⟨b25, 0, none⟩) 0 0)) (m := l.length) hS rfl rfl Try.underlying66 ti34 rfl rfl rfl rfl (by decide) (hc1.ext hS.ext) hf1 (gauges_one hr1) (by omega) (by omega) ?_; clear hS; intro v28 w hS
        refine nil ?_
        refine ⟨fun _ => (hS.sub (List.nil_sublist _)), ?_⟩
        show wpA _ _ _ _ _ _ _ _ _ _
        show wpA _ _ _ _ _ _ _ _ _ _
        refine a_step (i := 8) (is := []) (by kernel_rfl) ⟨?_, trivial⟩
        refine ⟨_, rfl, ?_⟩
        refine sapp (bytes := 80) (size := 5) (v := v28) (m := 1) hS rfl rfl Try.underlying66 ti34 rfl rfl rfl rfl (by decide) (blk_cells (hS.at _)) rfl rfl (by omega) (by omega) ?_; clear hS; intro v33 w hS
        refine nil ?_
        refine ⟨fun _ => (hS.sub (List.nil_sublist _)), ?_⟩
        show wpA _ _ _ _ _ _ _ _ _ _
        refine f_step 9 (by kernel_rfl) rfl (fun c a a' w h => by obtain ⟨_, v, hv, _⟩ := h; cases hv) (hS.sub (List.nil_sublist _)) (fun w hS => (yAsg rfl)) ?_
        refine a_end (by kernel_rfl) ?_
        exact ⟨_, rfl, _, css1 ++ [[.string g.name, .int .i64 g.err, .int .i64 g.rate, .slice ad0 g.datums.length cd0, .slice ar0 g.readings.length cr0]], rfl, rfl, rfl, (by first | (have h2 := hS.sub (.cons _ (List.Sublist.refl _)); rw [Nat.zero_add, List.nil_append] at h2; rw [flat_snoc, List.length_append]; exact h2) | (have h2 := hS.sub (.cons_cons _ (.cons _ (List.Sublist.refl _))); rw [Nat.zero_add, List.nil_append] at h2; rw [flat_snoc, List.length_append]; exact h2)), (hr1.snoc hl0 hR0), trivial⟩
    ·
      clear hS; rintro f w ⟨rv, css, h0, h3, h5, hS, hrows, -⟩
      refine seq ?_
      refine region ?_
      refine sv (yMove h0) ?_
      refine sv (fa68_0 h3) ?_
      refine sv (yLdB rfl Try.isAgg3 (hS.at _) rfl) ?_
      refine sv (fa68_1 h3) ?_
      refine sv (yLdB rfl Try.isAgg3 (hS.at _) rfl) ?_
      refine sv (fa68_2 h3) ?_
      refine sv (yLdB rfl Try.isAgg3 (hS.at _) rfl) ?_
      refine scall Try.call37 (.cons rfl (.cons rfl (.cons rfl (.cons rfl .nil)))) (c_Sound (hl.ext RGauge.stays hS.ext) hw ht hn) ?_
      rintro _ w ⟨rfl, hE⟩; replace hS := hS.step hE; clear hE
      refine sv (yMove rfl) ?_
      refine sv (yExt rfl rfl) ?_
      refine sv (yExt rfl rfl) ?_
      refine salloc hS Try.zeroValue38 rfl ?_; clear hS; intro b6 w hS
      refine sst hS rfl rfl Try.sizeOf38 rfl rfl rfl rfl ?_; clear hS; intro w hS
      refine sv (yAsg rfl) ?_
      refine nil ?_
      show Code.wp _ _ _ _ _
      refine seq ?_
      refine cutK (fun f => f 0 = .slice (some ⟨bl, ol, none⟩) (l.length + 1) cap ∧ f 3 = .pointer (some ⟨b3, 0, none⟩) ∧ f 5 = rv ∧ f 6 = .pointer (some ⟨b6, 0, none⟩) ∧ f 7 = .int .i64 (soundF (g :: l) wrong t now).2 ∧ True) ⟨h0, h3, h5, rfl, rfl, trivial⟩ ?_
      rintro f ⟨h0, h3, h5, h6, h7, -⟩
      refine region ?_
      refine sv (yMove h5) ?_
      refine sv (fa68_0 h3) ?_
      refine sv (yLdB rfl Try.isAgg3 (hS.at _) rfl) ?_
      refine sv (fa68_1 h3) ?_
      refine sv (yLdB rfl Try.isAgg3 (hS.at _) rfl) ?_
      refine sv (fa68_2 h3) ?_
      refine sv (yLdB rfl Try.isAgg3 (hS.at _) rfl) ?_
      refine scall Try.call37 (.cons rfl (.cons rfl (.cons rfl (.cons rfl .nil)))) (c_Sound (sl_of_row (hS.row rv) (hrows.ext RGauge.stays hS.ext) rfl) hw ht hn) ?_
      rintro _ w ⟨rfl, hE⟩; replace hS := hS.step hE; clear hE
      refine sv (yMove rfl) ?_
      refine sv (yExt rfl rfl) ?_
      refine sv (yExt rfl rfl) ?_
      refine salloc hS Try.zeroValue38 rfl ?_; clear hS; intro b8 w hS
      refine sst hS rfl rfl Try.sizeOf38 rfl rfl rfl rfl ?_; clear hS; intro w hS
      refine sv (yAsg rfl) ?_
      refine nil ?_
      show Code.wp _ _ _ _ _
      refine seq ?_
      refine cutK (fun f => f 0 = .slice (some ⟨bl, ol, none⟩) (l.length + 1) cap ∧ f 3 = .pointer (some ⟨b3, 0, none⟩) ∧ f 5 = rv ∧ f 6 = .pointer (some ⟨b6, 0, none⟩) ∧ f 7 = .int .i64 (soundF (g :: l) wrong t now).2 ∧ f 8 = .pointer (some ⟨b8, 0, none⟩) ∧ f 9 = .int .i64 (soundF (l ++ [g]) wrong t now).2 ∧ True) ⟨h0, h3, h5, h6, h7, rfl, rfl, trivial⟩ ?_
      rintro f ⟨h0, h3, h5, h6, h7, h8, h9, -⟩
      refine region ?_
      refine sv (yMove h0) ?_
      refine sv (fa68_1 h3) ?_
      refine sv (yLdB rfl Try.isAgg3 (hS.at _) rfl) ?_
      refine sv (fa68_2 h3) ?_
      refine sv (yLdB rfl Try.isAgg3 (hS.at _) rfl) ?_
      refine scall Try.call39 (.cons rfl (.cons rfl (.cons rfl .nil))) (c_Agree (hl.ext RGauge.stays hS.ext) ht hn) ?_
      rintro _ w ⟨ov, rfl, hM⟩; replace hS := hS.call1 hM; clear hM
      refine sv (yMove rfl) ?_
      refine sv (yExt rfl rfl) ?_
      refine sv (yExt rfl rfl) ?_
      refine sv (yExt rfl rfl) ?_
      refine sv (yAsg rfl) ?_
      refine sv (yAsg rfl) ?_
      refine sv (yAsg rfl) ?_
      refine nil ?_
      show Code.wp _ _ _ _ _
      refine seq ?_
      refine cutK (fun f => f 0 = .slice (some ⟨bl, ol, none⟩) (l.length + 1) cap ∧ f 3 = .pointer (some ⟨b3, 0, none⟩) ∧ f 5 = rv ∧ f 6 = .pointer (some ⟨b6, 0, none⟩) ∧ f 7 = .int .i64 (soundF (g :: l) wrong t now).2 ∧ f 8 = .pointer (some ⟨b8, 0, none⟩) ∧ f 9 = .int .i64 (soundF (l ++ [g]) wrong t now).2 ∧ f 10 = .int .i64 (agreeF (g :: l) t now).1 ∧ f 12 = .int .i64 (agreeF (g :: l) t now).2.2 ∧ True) ⟨h0, h3, h5, h6, h7, h8, h9, rfl, rfl, trivial⟩ ?_
      rintro f ⟨h0, h3, h5, h6, h7, h8, h9, h10, h12, -⟩
      refine region ?_
      refine sv (yMove h5) ?_
      refine sv (fa68_1 h3) ?_
      refine sv (yLdB rfl Try.isAgg3 (hS.at _) rfl) ?_
      refine sv (fa68_2 h3) ?_
      refine sv (yLdB rfl Try.isAgg3 (hS.at _) rfl) ?_
      refine scall Try.call39 (.cons rfl (.cons rfl (.cons rfl .nil))) (c_Agree (sl_of_row (hS.row rv) (hrows.ext RGauge.stays hS.ext) rfl) ht hn) ?_
      rintro _ w ⟨ow, rfl, hM⟩; replace hS := hS.call1 hM; clear hM
      refine sv (yMove rfl) ?_
      refine sv (yExt rfl rfl) ?_
      refine sv (yExt rfl rfl) ?_
      refine sv (yExt rfl rfl) ?_
      refine sv (yAsg rfl) ?_
      refine sv (yAsg rfl) ?_
      refine sv (yAsg rfl) ?_
      refine nil ?_
      show Code.wp _ _ _ _ _
      refine seq ?_
      refine cutK (fun f => f 0 = .slice (some ⟨bl, ol, none⟩) (l.length + 1) cap ∧ f 3 = .pointer (some ⟨b3, 0, none⟩) ∧ f 5 = rv ∧ f 6 = .pointer (some ⟨b6, 0, none⟩) ∧ f 7 = .int .i64 (soundF (g :: l) wrong t now).2 ∧ f 8 = .pointer (some ⟨b8, 0, none⟩) ∧ f 9 = .int .i64 (soundF (l ++ [g]) wrong t now).2 ∧ f 10 = .int .i64 (agreeF (g :: l) t now).1 ∧ f 12 = .int .i64 (agreeF (g :: l) t now).2.2 ∧ f 13 = .int .i64 (agreeF (l ++ [g]) t now).1 ∧ f 15 = .int .i64 (agreeF (l ++ [g]) t now).2.2 ∧ True) ⟨h0, h3, h5, h6, h7, h8, h9, h10, h12, rfl, rfl, trivial⟩ ?_
      rintro f ⟨h0, h3, h5, h6, h7, h8, h9, h10, h12, h13, h15, -⟩
      refine region ?_
      refine sv (yLdBA h6 Try.isAgg38 Try.sizeOf38 (hS.at _) rfl rfl) ?_
      refine sv (yLdBA h8 Try.isAgg38 Try.sizeOf38 (hS.at _) rfl rfl) ?_
      refine sv (eqS38 rfl rfl) ?_
      refine sv (yMove rfl) ?_
      refine sg rfl rfl rfl (fun g => (yMove h10)) (fun v80 g80 => ?_)
      refine sg rfl rfl rfl (fun g => (yMove h13)) (fun v81 g81 => ?_)
      refine sg rfl rfl rfl (fun g => (yEql (g80.1 g) (g81.1 g))) (fun v82 g82 => ?_)
      refine sv (yAnd rfl (fun hB => (g82.1 hB)) rfl) ?_
      refine sv (yMove rfl) ?_
      refine sg rfl rfl rfl (fun g => (yMove h7)) (fun v85 g85 => ?_)
      refine sg rfl rfl rfl (fun g => (yEql (g85.1 g) rfl)) (fun v86 g86 => ?_)
      refine sg rfl rfl rfl (fun g => (yMove h9)) (fun v87 g87 => ?_)
      refine sg rfl rfl rfl (fun g => (yEql (g87.1 g) rfl)) (fun v88 g88 => ?_)
      refine sg rfl rfl rfl (fun g => (yBEq (g86.1 g) (g88.1 g) Try.underlying4)) (fun v89 g89 => ?_)
      refine sv (yAnd rfl (fun hB => (g89.1 hB)) rfl) ?_
      refine sv (yMove rfl) ?_
      refine sg rfl rfl rfl (fun g => (yMove h12)) (fun v92 g92 => ?_)
      refine sg rfl rfl rfl (fun g => (yEql (g92.1 g) rfl)) (fun v93 g93 => ?_)
      refine sg rfl rfl rfl (fun g => (yMove h15)) (fun v94 g94 => ?_)
      refine sg rfl rfl rfl (fun g => (yEql (g94.1 g) rfl)) (fun v95 g95 => ?_)
      refine sg rfl rfl rfl (fun g => (yBEq (g93.1 g) (g95.1 g) Try.underlying4)) (fun v96 g96 => ?_)
      refine sv (yAnd rfl (fun hB => (g96.1 hB)) rfl) ?_
      refine sv (yMove rfl) ?_
      refine sgc hS rfl rfl rfl Try.call23 (fun g => .nil) (fun g => c_Awake) ?_; clear hS; intro v99 w hS g99
      refine sv (yAnd rfl (fun hB => (g99.1 hB)) rfl) ?_
      refine sv (yAsg rfl) ?_
      refine nil ?_
      show Code.wp _ _ _ _ _
      refine wp_ret ?_
      exact retV (res1 rfl (eqB (by simp [hp1.1, hp2.1, hp1.2, hp2.2]))) hS.ext
end Go.Proofs.Ytpgmehignepidaa
/- part P29 -/
namespace Bx
open Go Go.RowKit
def plainG (nm : ByteArray) (t lo hi : Int) : Gauge := ⟨nm, (hi - lo) / 2, 50, [⟨0, ⟨0, 0⟩⟩], [⟨t, (lo + hi) / 2⟩]⟩
def exL : Gauge := plainG ⟨#[108, 111, 99, 107]⟩ 110 600 700
def exW : Gauge := plainG ⟨#[119, 101, 105, 114]⟩ 110 0 10
def knT : List Int := [0, 1, 37]
def knL : List Span := [⟨90, 110⟩, ⟨144, 165⟩, ⟨90, 110⟩]
def knA : List Int := [90, 92, 90, 110]
def knN : List Int := [100, 100, 110, 110]
def knS : List Span := [⟨480, 520⟩, ⟨380, 620⟩, ⟨480, 520⟩, ⟨580, 630⟩]
theorem kn0 : ∀ k, k < 3 → I64 (knT.getD k 0) ∧ levelF exT (knT.getD k 0) = (knL.getD k ⟨0, 0⟩, 0) := by decide +kernel
theorem kn1 : periodF exT = (74, 0) := by decide +kernel
theorem kn2 : levelsE exT 18 2 = 0 ∧ highF exT 18 2 = [18, 19] := by decide +kernel
theorem kn2b : levelsE exT 0 2 = 0 ∧ highF exT 0 2 = [1] := by decide +kernel
theorem knS0 : ∀ k, k < 4 → I64 (knA.getD k 0) ∧ I64 (knN.getD k 0) ∧ saysF exG (knA.getD k 0) (knN.getD k 0) = (knS.getD k ⟨0, 0⟩, 0) := by decide +kernel
theorem kn3 : soundF [exG, exL] 0 110 110 = (⟨600, 630⟩, 0) := by rw [sound_law]; decide +kernel
theorem kn4 : (soundF [exG, exL, exW] 0 110 110).2 = 9 := by rw [sound_law]; decide +kernel
theorem kn5 : soundF [exG, exL, exW] 1 110 110 = (⟨600, 630⟩, 0) := by rw [sound_law]; decide +kernel
theorem kn6 : agreeF [exG, exL, exW] 110 110 = (2, [2], 0) := by rw [agree_law]; decide +kernel
theorem kn7 : fitF exG 1 110 [⟨590, 595⟩] = (⟨30, 40⟩, 0) := by decide +kernel
theorem getD_eq {α : Type} {l : List α} {k : Nat} (d : α) (h : k < l.length) : l[k]? = some (l.getD k d) := by simp [h]
end Bx
/- part Wk42 -/
namespace Go.Proofs.Ytpgmehignepidaa
open Go Bx
/-- barrage/barragelaw01.Gauge -/
theorem c_GaugeM {w0 : World} : CE Try.prog 50 #[] w0 (fun v w' => ∃ dd rr, v = .agg ([.string ⟨#[112, 105, 101, 114]⟩, .int .i64 20, .int .i64 50, .slice (some ⟨dd, 0, none⟩) 2 2, .slice (some ⟨rr, 0, none⟩) 2 2] : List Value).toArray ∧ St w0 w' [blk rr [.int .i64 90, .int .i64 500, .int .i64 110, .int .i64 640] 103, blk dd [.int .i64 0, .int .i64 0, .int .i64 0, .int .i64 100, .int .i64 30, .int .i64 40] 78]) := by
  refine enter Try.func50 rfl Try.ntmps50 rfl ?_
  have hS := St.start w0
  refine seq ?_
  refine region ?_
  refine salloc hS Try.zeroValue34 rfl ?_; clear hS; intro b0 w hS
  refine nil ?_
  show Code.wp _ _ _ _ _
  refine seq ?_
  refine region ?_
  refine sv (yBuild Try.zeroValue78 rfl pl78 .nil rfl) ?_
  refine sv (yBuild Try.zeroValue38 rfl pl38 (.cons rfl rfl (.cons rfl rfl .nil)) rfl) ?_
  refine sv (yBuild Try.zeroValue78 rfl pl78 (.cons rfl rfl (.cons rfl rfl .nil)) rfl) ?_
  refine sbslice hS Try.underlying31 Try.sizeOf78 rfl Try.zeroValue78 rfl (.cons rfl rfl (.cons rfl rfl .nil)) rfl ?_; clear hS; intro b4 w hS
  refine sv (yBuild Try.zeroValue103 rfl pl103 (.cons rfl rfl (.cons rfl rfl .nil)) rfl) ?_
  refine sv (yBuild Try.zeroValue103 rfl pl103 (.cons rfl rfl (.cons rfl rfl .nil)) rfl) ?_
  refine sbslice hS Try.underlying32 Try.sizeOf103 rfl Try.zeroValue103 rfl (.cons rfl rfl (.cons rfl rfl .nil)) rfl ?_; clear hS; intro b7 w hS
  refine sv (yBuild Try.zeroValue34 rfl pl34 (.cons rfl rfl (.cons rfl rfl (.cons rfl rfl (.cons rfl rfl (.cons rfl rfl .nil))))) rfl) ?_
  refine sst hS rfl rfl Try.sizeOf34 rfl rfl rfl rfl ?_; clear hS; intro w hS
  refine nil ?_
  show Code.wp _ _ _ _ _
  refine wp_ret ?_
  refine retQ (resV1 rfl (rc rfl Try.isAgg34 Try.sizeOf34 (hS.at _) rfl rfl)) ?_
  exact ⟨b4, b7, rfl, hS.sub (.cons_cons _ (.cons_cons _ (List.nil_sublist _)))⟩
/-- barrage/barragelaw01.Plain -/
theorem c_PlainM {nm : ByteArray} {t lo hi : Int} {w0 : World} (hb : 0 ≤ lo ∧ lo ≤ hi ∧ hi ≤ 1000) : CE Try.prog 51 #[.string nm, .int .i64 t, .int .i64 lo, .int .i64 hi] w0 (fun v w' => ∃ dd rr, v = .agg ([.string nm, .int .i64 ((hi - lo) / 2), .int .i64 50, .slice (some ⟨dd, 0, none⟩) 1 1, .slice (some ⟨rr, 0, none⟩) 1 1] : List Value).toArray ∧ St w0 w' [blk rr [.int .i64 t, .int .i64 ((lo + hi) / 2)] 103, blk dd [.int .i64 0, .int .i64 0, .int .i64 0] 78]) := by
  refine enter Try.func51 rfl Try.ntmps51 rfl ?_
  have hS := St.start w0
  refine seq ?_
  refine region ?_
  refine salloc hS Try.zeroValue34 rfl ?_; clear hS; intro b8 w hS
  refine nil ?_
  show Code.wp _ _ _ _ _
  refine seq ?_
  refine region ?_
  refine sv (yMove rfl) ?_
  refine sv (yMove rfl) ?_
  refine sv (yMove rfl) ?_
  refine sv (ySub rfl rfl ⟨by omega, by omega⟩) ?_
  refine sv (yQuoP rfl rfl ⟨by omega, by omega⟩ (by omega)) ?_
  refine sv (yBuild Try.zeroValue78 rfl pl78 .nil rfl) ?_
  refine sbslice hS Try.underlying31 Try.sizeOf78 rfl Try.zeroValue78 rfl (.cons rfl rfl .nil) rfl ?_; clear hS; intro b15 w hS
  refine sv (yMove rfl) ?_
  refine sv (yMove rfl) ?_
  refine sv (yMove rfl) ?_
  refine sv (yAdd rfl rfl ⟨by omega, by omega⟩) ?_
  refine sv (yQuoP rfl rfl ⟨by omega, by omega⟩ (by omega)) ?_
  refine sv (yBuild Try.zeroValue103 rfl pl103 (.cons rfl rfl (.cons rfl rfl .nil)) rfl) ?_
  refine sbslice hS Try.underlying32 Try.sizeOf103 rfl Try.zeroValue103 rfl (.cons rfl rfl .nil) rfl ?_; clear hS; intro b22 w hS
  refine sv (yBuild Try.zeroValue34 rfl pl34 (.cons rfl rfl (.cons rfl rfl (.cons rfl rfl (.cons rfl rfl (.cons rfl rfl .nil))))) rfl) ?_
  refine sst hS rfl rfl Try.sizeOf34 rfl rfl rfl rfl ?_; clear hS; intro w hS
  refine nil ?_
  show Code.wp _ _ _ _ _
  refine wp_ret ?_
  refine retQ (resV1 rfl (rc rfl Try.isAgg34 Try.sizeOf34 (hS.at _) rfl rfl)) ?_
  exact ⟨b15, b22, rfl, hS.sub (.cons_cons _ (.cons_cons _ (List.nil_sublist _)))⟩
theorem rgG {w : World} {dd rr : Nat} {T T2 : TypeId} (hd : w.heap[dd]? = some (.cells ([.int .i64 0, .int .i64 0, .int .i64 0, .int .i64 100, .int .i64 30, .int .i64 40] : List Value).toArray T (0, 0))) (hr : w.heap[rr]? = some (.cells ([.int .i64 90, .int .i64 500, .int .i64 110, .int .i64 640] : List Value).toArray T2 (0, 0))) : RGauge w [.string ⟨#[112, 105, 101, 114]⟩, .int .i64 20, .int .i64 50, .slice (some ⟨dd, 0, none⟩) 2 2, .slice (some ⟨rr, 0, none⟩) 2 2] exG :=
  ⟨_, _, rfl, by decide, by decide, by decide, sl_of_blk hd (css := [_, _]) rfl ⟨rfl, ⟨rfl, by decide, by decide, by decide⟩, rfl, ⟨rfl, by decide, by decide, by decide⟩, trivial⟩ (by decide) rfl, sl_of_blk hr (css := [_, _]) rfl ⟨rfl, ⟨rfl, by decide, by decide⟩, rfl, ⟨rfl, by decide, by decide⟩, trivial⟩ (by decide) rfl⟩
theorem rgP {w : World} {dd rr : Nat} {T T2 : TypeId} {nm : ByteArray} {t lo hi : Int} (hd : w.heap[dd]? = some (.cells ([.int .i64 0, .int .i64 0, .int .i64 0] : List Value).toArray T (0, 0))) (hr : w.heap[rr]? = some (.cells ([.int .i64 t, .int .i64 ((lo + hi) / 2)] : List Value).toArray T2 (0, 0))) (hn : nm.size ≤ 9223372036854775807) (ht : I64 t) (hb : 0 ≤ lo ∧ lo ≤ hi ∧ hi ≤ 1000) : RGauge w [.string nm, .int .i64 ((hi - lo) / 2), .int .i64 50, .slice (some ⟨dd, 0, none⟩) 1 1, .slice (some ⟨rr, 0, none⟩) 1 1] (plainG nm t lo hi) :=
  ⟨_, _, rfl, hn, (show I64 ((hi - lo) / 2) from ⟨by omega, by omega⟩), (show I64 50 by decide), sl_of_blk hd (css := [_]) rfl ⟨rfl, ⟨rfl, by decide, by decide, by decide⟩, trivial⟩ (Nat.le_of_ble_eq_true rfl) rfl, sl_of_blk hr (css := [_]) rfl ⟨rfl, ⟨rfl, ht, (show I64 ((lo + hi) / 2) from ⟨by omega, by omega⟩)⟩, trivial⟩ (Nat.le_of_ble_eq_true rfl) rfl⟩
theorem sallocE {P : Program} {ops : Array Oper} {Q : Exit → Act → World → Prop} {n : Nat} {f : Fr} {S : List Nat} {w0 w : World} {L : List Bx.Item} {rest : List Oper} {d : Nat} {ty : TypeId} {pos : String} {af : Array Edge} {T : TypeId} {z : Value} {cs : List Value} (hS : StX S w0 w L) (hz : ∀ w, (zeroValue T).run P w = .ok z w) (hc : z.cells.toList = cs)
    (h : ∀ b w', StX S w0 w' (blk b cs T :: L) → Ext w w' → wpL P ops Q n rest (upd f d (.pointer (some ⟨b, 0, none⟩))) w') : wpL P ops Q n (⟨some d, .alloc T, ty, pos, af, none⟩ :: rest) f w := by
  refine salloc (StX.start (S := []) (w := w) (L := []) (by simp) (by simp [fps]) (by simp [fps])) hz hc ?_
  intro b w' h1
  exact h b w' (hS.call1 h1) h1.ext
set_option maxHeartbeats 4000000 in
/-- barrage/barragelaw01.TideKnown -/
theorem w_TideKnown {w0 : World} : CV Try.prog 18 #[] w0 (.bool true) := by
  refine enter Try.func18 rfl Try.ntmps18 rfl ?_
  have hS := St.start w0
  refine seq ?_
  refine region ?_
  refine sv (yAsg rfl) ?_
  refine nil ?_
  show Code.wp _ _ _ _ _
  refine seq ?_
  refine region ?_
  refine sbslice hS Try.underlying44 Try.sizeOf3 rfl Try.zeroValue3 rfl (.cons rfl rfl (.cons rfl rfl (.cons rfl rfl .nil))) rfl ?_; clear hS; intro b27 w hS
  refine sv (yBuild Try.zeroValue38 rfl pl38 (.cons rfl rfl (.cons rfl rfl .nil)) rfl) ?_
  refine sv (yBuild Try.zeroValue38 rfl pl38 (.cons rfl rfl (.cons rfl rfl .nil)) rfl) ?_
  refine sv (yBuild Try.zeroValue38 rfl pl38 (.cons rfl rfl (.cons rfl rfl .nil)) rfl) ?_
  refine sbslice hS Try.underlying61 Try.sizeOf38 rfl Try.zeroValue38 rfl (.cons rfl rfl (.cons rfl rfl (.cons rfl rfl .nil))) rfl ?_; clear hS; intro b31 w hS
  refine sv (yAsg rfl) ?_
  refine sv (yAsg rfl) ?_
  refine nil ?_
  show Code.wp _ _ _ _ _
  refine seq ?_
  refine seq ?_
  refine region ?_
  refine sv (yAsg rfl) ?_
  refine nil ?_
  show Code.wp _ _ _ _ _
  refine block ?_
  refine loop (fun f w zz => ∃ (k : Nat), f 0 = .bool false ∧ f 1 = .slice (some ⟨b27, 0, none⟩) 3 3 ∧ f 2 = .slice (some ⟨b31, 0, none⟩) 3 3 ∧ f 3 = .int .i64 (k : Int) ∧ StX [] w0 w [blk b31 [.int .i64 90, .int .i64 110, .int .i64 144, .int .i64 165, .int .i64 90, .int .i64 110] 38, blk b27 [.int .i64 0, .int .i64 1, .int .i64 37] 3] ∧ (k ≤ 3) ∧ zz = 3 - k) _ ⟨_, rfl, 0, rfl, rfl, rfl, rfl, hS, (by decide), rfl⟩ ?_
  clear hS
  rintro f w _ ⟨k, h0, h1, h2, h3, hS, hk, rfl⟩
  refine seq ?_
  refine seq ?_
  refine region ?_
  refine sv (yMove h3) ?_
  refine sv (yLss rfl rfl) ?_
  refine nil ?_
  show Code.wp _ _ _ _ _
  refine cond rfl (fun c33 => ?_) (fun c33 => ?_)
  ·
    simp only [Bool.and_eq_true, Bool.or_eq_true, Bool.and_eq_false_iff, Bool.or_eq_false_iff, decide_eq_true_eq, decide_eq_false_iff_not, Bool.not_eq_true, Bool.not_eq_false, Bool.not_not, Bool.not_eq_eq_eq_not, Bool.not_true, Bool.not_false, Bool.false_eq_true, Bool.true_eq_false, ne_eq, Decidable.not_not, not_false_eq_true, not_true_eq_false] at c33
    have hk3 := kn0 k (by omega)
    refine skip ?_
    show Code.wp _ _ _ _ _
    refine seq ?_
    refine block ?_
    refine seqJ (n := 212) (fun f w => ∃ (b4 : Nat), f 0 = .bool false ∧ f 1 = .slice (some ⟨b27, 0, none⟩) 3 3 ∧ f 2 = .slice (some ⟨b31, 0, none⟩) 3 3 ∧ f 3 = .int .i64 (k : Int) ∧ f 4 = .pointer (some ⟨b4, 0, none⟩) ∧ f 5 = .int .i64 0 ∧ StX [] w0 w [blk b4 (spanC (knL.getD k ⟨0, 0⟩)) 38, blk b31 [.int .i64 90, .int .i64 110, .int .i64 144, .int .i64 165, .int .i64 90, .int .i64 110] 38, blk b27 [.int .i64 0, .int .i64 1, .int .i64 37] 3] ∧ True) ?_ ?_
    ·
      refine region_mix (fun w => StX [] w0 w [blk b31 [.int .i64 90, .int .i64 110, .int .i64 144, .int .i64 165, .int .i64 90, .int .i64 110] 38, blk b27 [.int .i64 0, .int .i64 1, .int .i64 37] 3]) 12 mixed hS ?_
      clear hS; intro w hS
      refine f_step 1 (by kernel_rfl) rfl (fun c a a' w h => by obtain ⟨_, v, hv, _⟩ := h; cases hv) (hS.sub (List.Sublist.refl _)) (fun w hS => (yMove h1)) ?_
      refine f_step 2 (by kernel_rfl) rfl (fun c a a' w h => by obtain ⟨_, v, hv, _⟩ := h; cases hv) (hS.sub (List.Sublist.refl _)) (fun w hS => (yMove h3)) ?_
      refine f_step 3 (by kernel_rfl) rfl (fun c a a' w h => by obtain ⟨_, v, hv, _⟩ := h; cases hv) (hS.sub (List.Sublist.refl _)) (fun w hS => (yIx0 rfl rfl Try.runUnderlying44 Try.sizeOf3 (by omega))) ?_
      refine f_step 4 (by kernel_rfl) rfl (fun c a a' w h => by obtain ⟨_, v, hv, _⟩ := h; cases hv) (hS.sub (List.Sublist.refl _)) (fun w hS => (yLd rfl Try.isAgg3 ((flat_cells0 (enc := Bx.encI) encI_len (l := knT) (blk_cells (hS.at b27)) (getD_eq 0 (show k < 3 by omega))).one))) ?_
      show wpA _ _ _ _ _ _ _ _ _ _
      refine a_step (i := 0) (is := [9]) (by kernel_rfl) ⟨?_, ?_, trivial⟩
      ·
        refine ⟨_, rfl, ?_⟩
        refine scall Try.call49 .nil c_Table ?_
        rintro _ w ⟨csT, rfl, hT, hE⟩; replace hS := hS.step hE; clear hE
        refine nil ?_
        refine ⟨fun _ => (hS.sub (List.Sublist.refl _)), ?_⟩
        show wpA _ _ _ _ _ _ _ _ _ _
        show wpA _ _ _ _ _ _ _ _ _ _
        refine a_step (i := 5) (is := [9]) (by kernel_rfl) ⟨?_, ?_, trivial⟩
        ·
          refine ⟨_, rfl, ?_⟩
          refine scall Try.call28 (.cons rfl (.cons rfl .nil)) (c_Level hT hk3.1) ?_
          rw [hk3.2]
          rintro _ w ⟨rfl, hE⟩; replace hS := hS.step hE; clear hE
          refine nil ?_
          refine ⟨fun _ => (hS.sub (List.Sublist.refl _)), ?_⟩
          show wpA _ _ _ _ _ _ _ _ _ _
          refine f_step 6 (by kernel_rfl) rfl (fun c a a' w h => by obtain ⟨_, v, hv, _⟩ := h; cases hv) (hS.sub (List.Sublist.refl _)) (fun w hS => (yMove rfl)) ?_
          refine f_step 7 (by kernel_rfl) rfl (fun c a a' w h => by obtain ⟨_, v, hv, _⟩ := h; cases hv) (hS.sub (List.Sublist.refl _)) (fun w hS => (yExt rfl rfl)) ?_
          refine f_step 8 (by kernel_rfl) rfl (fun c a a' w h => by obtain ⟨_, v, hv, _⟩ := h; cases hv) (hS.sub (List.Sublist.refl _)) (fun w hS => (yExt rfl rfl)) ?_
          show wpA _ _ _ _ _ _ _ _ _ _
          refine a_step (i := 9) (is := []) (by kernel_rfl) ⟨?_, trivial⟩
          refine ⟨_, rfl, ?_⟩
          refine sallocE hS Try.zeroValue38 rfl ?_; clear hS; intro b4 w hS hE; try replace hT := RTable.stays _ _ _ _ hE hT
          try clear hE
          refine nil ?_
          refine ⟨fun _ => (hS.sub (.cons _ (List.Sublist.refl _))), ?_⟩
          show wpA _ _ _ _ _ _ _ _ _ _
          show wpA _ _ _ _ _ _ _ _ _ _
          refine a_step (i := 10) (is := []) (by kernel_rfl) ⟨?_, trivial⟩
          refine ⟨_, rfl, ?_⟩
          refine sst hS rfl rfl Try.sizeOf38 rfl rfl rfl rfl ?_; clear hS; intro w hS
          refine nil ?_
          refine ⟨fun _ => (hS.sub (.cons _ (List.Sublist.refl _))), ?_⟩
          show wpA _ _ _ _ _ _ _ _ _ _
          refine f_step 11 (by kernel_rfl) rfl (fun c a a' w h => by obtain ⟨_, v, hv, _⟩ := h; cases hv) (hS.sub (.cons _ (List.Sublist.refl _))) (fun w hS => (yAsg rfl)) ?_
          refine a_end (by kernel_rfl) ?_
          exact ⟨_, rfl, _, h0, h1, h2, h3, rfl, rfl, hS, trivial⟩
        ·
          refine ⟨_, rfl, ?_⟩
          refine sallocE hS Try.zeroValue38 rfl ?_; clear hS; intro b4 w hS hE; try replace hT := RTable.stays _ _ _ _ hE hT
          try clear hE
          refine nil ?_
          refine ⟨fun _ => (hS.sub (.cons _ (List.Sublist.refl _))), ?_⟩
          show wpA _ _ _ _ _ _ _ _ _ _
          show wpA _ _ _ _ _ _ _ _ _ _
          refine a_step (i := 5) (is := []) (by kernel_rfl) ⟨?_, trivial⟩
          refine ⟨_, rfl, ?_⟩
          refine scall Try.call28 (.cons rfl (.cons rfl .nil)) (c_Level hT hk3.1) ?_
          rw [hk3.2]
          rintro _ w ⟨rfl, hE⟩; replace hS := hS.step hE; clear hE
          refine nil ?_
          refine ⟨fun _ => (hS.sub (.cons _ (List.Sublist.refl _))), ?_⟩
          show wpA _ _ _ _ _ _ _ _ _ _
          refine f_step 6 (by kernel_rfl) rfl (fun c a a' w h => by obtain ⟨_, v, hv, _⟩ := h; cases hv) (hS.sub (.cons _ (List.Sublist.refl _))) (fun w hS => (yMove rfl)) ?_
          refine f_step 7 (by kernel_rfl) rfl (fun c a a' w h => by obtain ⟨_, v, hv, _⟩ := h; cases hv) (hS.sub (.cons _ (List.Sublist.refl _))) (fun w hS => (yExt rfl rfl)) ?_
          refine f_step 8 (by kernel_rfl) rfl (fun c a a' w h => by obtain ⟨_, v, hv, _⟩ := h; cases hv) (hS.sub (.cons _ (List.Sublist.refl _))) (fun w hS => (yExt rfl rfl)) ?_
          show wpA _ _ _ _ _ _ _ _ _ _
          refine a_step (i := 10) (is := []) (by kernel_rfl) ⟨?_, trivial⟩
          refine ⟨_, rfl, ?_⟩
          refine sst hS rfl rfl Try.sizeOf38 rfl rfl rfl rfl ?_; clear hS; intro w hS
          refine nil ?_
          refine ⟨fun _ => (hS.sub (.cons _ (List.Sublist.refl _))), ?_⟩
          show wpA _ _ _ _ _ _ _ _ _ _
          refine f_step 11 (by kernel_rfl) rfl (fun c a a' w h => by obtain ⟨_, v, hv, _⟩ := h; cases hv) (hS.sub (.cons _ (List.Sublist.refl _))) (fun w hS => (yAsg rfl)) ?_
          refine a_end (by kernel_rfl) ?_
          exact ⟨_, rfl, _, h0, h1, h2, h3, rfl, rfl, hS, trivial⟩
      ·
        refine ⟨_, rfl, ?_⟩
        refine sallocE hS Try.zeroValue38 rfl ?_; clear hS; intro b4 w hS hE; try replace hT := RTable.stays _ _ _ _ hE hT
        try clear hE
        refine nil ?_
        refine ⟨fun _ => (hS.sub (.cons _ (List.Sublist.refl _))), ?_⟩
        show wpA _ _ _ _ _ _ _ _ _ _
        show wpA _ _ _ _ _ _ _ _ _ _
        refine a_step (i := 0) (is := []) (by kernel_rfl) ⟨?_, trivial⟩
        refine ⟨_, rfl, ?_⟩
        refine scall Try.call49 .nil c_Table ?_
        rintro _ w ⟨csT, rfl, hT, hE⟩; replace hS := hS.step hE; clear hE
        refine nil ?_
        refine ⟨fun _ => (hS.sub (.cons _ (List.Sublist.refl _))), ?_⟩
        show wpA _ _ _ _ _ _ _ _ _ _
        show wpA _ _ _ _ _ _ _ _ _ _
        refine a_step (i := 5) (is := []) (by kernel_rfl) ⟨?_, trivial⟩
        refine ⟨_, rfl, ?_⟩
        refine scall Try.call28 (.cons rfl (.cons rfl .nil)) (c_Level hT hk3.1) ?_
        rw [hk3.2]
        rintro _ w ⟨rfl, hE⟩; replace hS := hS.step hE; clear hE
        refine nil ?_
        refine ⟨fun _ => (hS.sub (.cons _ (List.Sublist.refl _))), ?_⟩
        show wpA _ _ _ _ _ _ _ _ _ _
        refine f_step 6 (by kernel_rfl) rfl (fun c a a' w h => by obtain ⟨_, v, hv, _⟩ := h; cases hv) (hS.sub (.cons _ (List.Sublist.refl _))) (fun w hS => (yMove rfl)) ?_
        refine f_step 7 (by kernel_rfl) rfl (fun c a a' w h => by obtain ⟨_, v, hv, _⟩ := h; cases hv) (hS.sub (.cons _ (List.Sublist.refl _))) (fun w hS => (yExt rfl rfl)) ?_
        refine f_step 8 (by kernel_rfl) rfl (fun c a a' w h => by obtain ⟨_, v, hv, _⟩ := h; cases hv) (hS.sub (.cons _ (List.Sublist.refl _))) (fun w hS => (yExt rfl rfl)) ?_
        show wpA _ _ _ _ _ _ _ _ _ _
        refine a_step (i := 10) (is := []) (by kernel_rfl) ⟨?_, trivial⟩
        refine ⟨_, rfl, ?_⟩
        refine sst hS rfl rfl Try.sizeOf38 rfl rfl rfl rfl ?_; clear hS; intro w hS
        refine nil ?_
        refine ⟨fun _ => (hS.sub (.cons _ (List.Sublist.refl _))), ?_⟩
        show wpA _ _ _ _ _ _ _ _ _ _
        refine f_step 11 (by kernel_rfl) rfl (fun c a a' w h => by obtain ⟨_, v, hv, _⟩ := h; cases hv) (hS.sub (.cons _ (List.Sublist.refl _))) (fun w hS => (yAsg rfl)) ?_
        refine a_end (by kernel_rfl) ?_
        exact ⟨_, rfl, _, h0, h1, h2, h3, rfl, rfl, hS, trivial⟩
    ·
      clear hS; rintro f w ⟨b4, h0, h1, h2, h3, h4, h5, hS, -⟩
      refine seq ?_
      refine region_draw mixed (by kernel_rfl) hS ?_
      refine qv (fun w hS => (yMove h5)) ?_
      refine qv (fun w hS => (yNeq rfl rfl)) ?_
      refine qv (fun w hS => (yMove rfl)) ?_
      refine qg rfl rfl rfl (fun g w hS => (yLdBA h4 Try.isAgg38 Try.sizeOf38 (hS.at _) rfl rfl)) (fun v48 g48 => ?_)
      refine qg rfl rfl rfl (fun g w hS => (yMove h2)) (fun v49 g49 => ?_)
      refine qg rfl rfl rfl (fun g w hS => (yMove h3)) (fun v50 g50 => ?_)
      refine qg rfl rfl rfl (fun g w hS => (yIx0 (g49.1 g) (g50.1 g) Try.runUnderlying61 Try.sizeOf38 (by omega))) (fun v51 g51 => ?_)
      refine qg rfl rfl rfl (fun g w hS => (yLdA (g51.1 g) Try.isAgg38 Try.sizeOf38 (flat_cells0 spanC_len (l := knL) (blk_cells (hS.at b31)) (getD_eq (⟨0, 0⟩ : Span) (show k < 3 by omega))) rfl)) (fun v52 g52 => ?_)
      refine qg rfl rfl rfl (fun g w hS => (neS38 (g48.1 g) (g52.1 g))) (fun v53 g53 => ?_)
      refine qv (fun w hS => (yOr rfl rfl (fun hB => (g53.1 hB)))) ?_
      clear hS; refine qnil (fun w hS => ?_)
      show Code.wp _ _ _ _ _
      refine cond rfl (fun c54 => ?_) (fun c54 => ?_)
      ·
        exact absurd c54 (by simp)
      ·
        refine skip ?_
        show Code.wp _ _ _ _ _
        refine region ?_
        refine sv (yMove h3) ?_
        refine sv (yAdd rfl rfl ⟨by omega, by omega⟩) ?_
        refine sv (yAsg rfl) ?_
        refine nil ?_
        exact ⟨_, _, rfl, ⟨k + 1, h0, h1, h2, rfl, (hS.sub (.cons _ (List.Sublist.refl _))), (by omega), rfl⟩, by omega⟩
  ·
    simp only [Bool.and_eq_true, Bool.or_eq_true, Bool.and_eq_false_iff, Bool.or_eq_false_iff, decide_eq_true_eq, decide_eq_false_iff_not, Bool.not_eq_true, Bool.not_eq_false, Bool.not_not, Bool.not_eq_eq_eq_not, Bool.not_true, Bool.not_false, Bool.false_eq_true, Bool.true_eq_false, ne_eq, Decidable.not_not, not_false_eq_true, not_true_eq_false] at c33
    refine exit ?_
    show Code.wp _ _ _ _ _
    refine seq ?_
    refine cutK (fun f => f 0 = .bool false ∧ True) ⟨h0, trivial⟩ ?_
    rintro f ⟨h0, -⟩
    replace hS : St w0 w [] := (hS.sub (List.nil_sublist _))
    refine region ?_
    refine scall Try.call49 .nil c_Table ?_
    rintro _ w ⟨csT, rfl, hT, hE⟩; replace hS := hS.step hE; clear hE
    refine scall Try.call32 (.cons rfl .nil) (c_Period hT) ?_
    rw [kn1]
    rintro _ w ⟨rfl, hE⟩; replace hS := hS.step hE; clear hE
    refine sv (yMove rfl) ?_
    refine sv (yExt rfl rfl) ?_
    refine sv (yExt rfl rfl) ?_
    refine sv (yAsg rfl) ?_
    refine sv (yAsg rfl) ?_
    refine nil ?_
    show Code.wp _ _ _ _ _
    refine seq ?_
    refine region ?_
    refine scall Try.call49 .nil c_Table ?_
    rintro _ w ⟨csT2, rfl, hT2, hE⟩; replace hS := hS.step hE; clear hE
    refine scall Try.call46 (.cons rfl (.cons rfl (.cons rfl .nil))) (c_High hT2 (by decide) (by decide)) ?_
    rw [kn2.1, kn2.2]
    rintro _ w ⟨va, rfl, hM⟩; replace hS := hS.call1 hM; clear hM
    refine sv (yMove rfl) ?_
    refine sv (yExt rfl rfl) ?_
    refine sv (yExt rfl rfl) ?_
    refine sv (yAsg rfl) ?_
    refine sv (yAsg rfl) ?_
    refine nil ?_
    show Code.wp _ _ _ _ _
    refine seq ?_
    refine region ?_
    refine scall Try.call49 .nil c_Table ?_
    rintro _ w ⟨csT3, rfl, hT3, hE⟩; replace hS := hS.step hE; clear hE
    refine scall Try.call46 (.cons rfl (.cons rfl (.cons rfl .nil))) (c_High hT3 (by decide) (by decide)) ?_
    rw [kn2b.1, kn2b.2]
    rintro _ w ⟨vb, rfl, hM⟩; replace hS := hS.call1 hM; clear hM
    refine sv (yMove rfl) ?_
    refine sv (yExt rfl rfl) ?_
    refine sv (yExt rfl rfl) ?_
    refine sv (yAsg rfl) ?_
    refine sv (yAsg rfl) ?_
    refine nil ?_
    show Code.wp _ _ _ _ _
    refine seq ?_
    refine seq ?_
    refine cutK (fun f => f 0 = .bool false ∧ f 6 = .int .i64 74 ∧ f 7 = .int .i64 0 ∧ f 8 = va ∧ f 9 = .int .i64 0 ∧ f 10 = vb ∧ f 11 = .int .i64 0 ∧ True) ⟨h0, rfl, rfl, rfl, rfl, rfl, rfl, trivial⟩ ?_
    rintro f ⟨h0, h6, h7, h8, h9, h10, h11, -⟩
    refine region ?_
    refine sv (yMove h7) ?_
    refine sv (yNeq rfl rfl) ?_
    refine sv (yMove rfl) ?_
    refine ungo rfl rfl rfl ?_
    refine sv (yMove h9) ?_
    refine ungo rfl rfl rfl ?_
    refine sv (yNeq rfl rfl) ?_
    refine sv (yOr rfl rfl (fun hB => rfl)) ?_
    refine sv (yMove rfl) ?_
    refine ungo rfl rfl rfl ?_
    refine sv (yMove h11) ?_
    refine ungo rfl rfl rfl ?_
    refine sv (yNeq rfl rfl) ?_
    refine sv (yOr rfl rfl (fun hB => rfl)) ?_
    refine sv (yMove rfl) ?_
    refine ungo rfl rfl rfl ?_
    refine sv (yMove h6) ?_
    refine ungo rfl rfl rfl ?_
    refine sv (yNeq rfl rfl) ?_
    refine sv (yOr rfl rfl (fun hB => rfl)) ?_
    refine sv (yMove rfl) ?_
    refine ungo rfl rfl rfl ?_
    refine sv (yMove h8) ?_
    refine ungo rfl rfl rfl ?_
    refine sbslice hS Try.underlying44 Try.sizeOf3 rfl Try.zeroValue3 rfl (.cons rfl rfl (.cons rfl rfl .nil)) rfl ?_; clear hS; intro b86 w hS
    refine ungo rfl rfl rfl ?_
    refine scall Try.call41 (.cons rfl (.cons rfl .nil)) (c_Ints (sl_ints (hS.row va) rfl (by decide)) (ints_sl (b := b86) (l := [18, 19]) (hS.at b86) (by decide) (by decide))) ?_
    rintro _ w ⟨rfl, hE⟩; replace hS := hS.step hE; clear hE
    refine ungo rfl rfl rfl ?_
    refine sv (yNot rfl) ?_
    refine sv (yOr rfl rfl (fun hB => rfl)) ?_
    refine sv (yMove rfl) ?_
    refine ungo rfl rfl rfl ?_
    refine sv (yMove h10) ?_
    refine ungo rfl rfl rfl ?_
    refine sbslice hS Try.underlying44 Try.sizeOf3 rfl Try.zeroValue3 rfl (.cons rfl rfl .nil) rfl ?_; clear hS; intro b92 w hS
    refine ungo rfl rfl rfl ?_
    refine scall Try.call41 (.cons rfl (.cons rfl .nil)) (c_Ints (sl_ints (hS.row vb) rfl (by decide)) (ints_sl (b := b92) (l := [1]) (hS.at b92) (by decide) (by decide))) ?_
    rintro _ w ⟨rfl, hE⟩; replace hS := hS.step hE; clear hE
    refine ungo rfl rfl rfl ?_
    refine sv (yNot rfl) ?_
    refine sv (yOr rfl rfl (fun hB => rfl)) ?_
    refine nil ?_
    show Code.wp _ _ _ _ _
    refine cond rfl (fun c95 => ?_) (fun c95 => ?_)
    ·
      exact absurd c95 (by decide)
    ·
      refine skip ?_
      show Code.wp _ _ _ _ _
      refine seq ?_
      refine cutK (fun f => f 0 = .bool false ∧ True) ⟨h0, trivial⟩ ?_
      rintro f ⟨h0, -⟩
      replace hS : St w0 w [] := (hS.sub (List.nil_sublist _))
      refine region ?_
      refine sbslice hS Try.underlying44 Try.sizeOf3 rfl Try.zeroValue3 rfl (.cons rfl rfl (.cons rfl rfl (.cons rfl rfl (.cons rfl rfl .nil)))) rfl ?_; clear hS; intro b96 w hS
      refine sbslice hS Try.underlying44 Try.sizeOf3 rfl Try.zeroValue3 rfl (.cons rfl rfl (.cons rfl rfl (.cons rfl rfl (.cons rfl rfl .nil)))) rfl ?_; clear hS; intro b97 w hS
      refine sv (yBuild Try.zeroValue38 rfl pl38 (.cons rfl rfl (.cons rfl rfl .nil)) rfl) ?_
      refine sv (yBuild Try.zeroValue38 rfl pl38 (.cons rfl rfl (.cons rfl rfl .nil)) rfl) ?_
      refine sv (yBuild Try.zeroValue38 rfl pl38 (.cons rfl rfl (.cons rfl rfl .nil)) rfl) ?_
      refine sv (yBuild Try.zeroValue38 rfl pl38 (.cons rfl rfl (.cons rfl rfl .nil)) rfl) ?_
      refine sbslice hS Try.underlying61 Try.sizeOf38 rfl Try.zeroValue38 rfl (.cons rfl rfl (.cons rfl rfl (.cons rfl rfl (.cons rfl rfl .nil)))) rfl ?_; clear hS; intro b102 w hS
      refine sv (yAsg rfl) ?_
      refine sv (yAsg rfl) ?_
      refine sv (yAsg rfl) ?_
      refine nil ?_
      show Code.wp _ _ _ _ _
      refine seq ?_
      refine seq ?_
      refine region ?_
      refine sv (yAsg rfl) ?_
      refine nil ?_
      show Code.wp _ _ _ _ _
      refine block ?_
      refine loop (fun f w zz => ∃ (k : Nat), f 0 = .bool false ∧ f 12 = .slice (some ⟨b96, 0, none⟩) 4 4 ∧ f 13 = .slice (some ⟨b97, 0, none⟩) 4 4 ∧ f 14 = .slice (some ⟨b102, 0, none⟩) 4 4 ∧ f 15 = .int .i64 (k : Int) ∧ StX [] w0 w [blk b102 [.int .i64 480, .int .i64 520, .int .i64 380, .int .i64 620, .int .i64 480, .int .i64 520, .int .i64 580, .int .i64 630] 38, blk b97 [.int .i64 100, .int .i64 100, .int .i64 110, .int .i64 110] 3, blk b96 [.int .i64 90, .int .i64 92, .int .i64 90, .int .i64 110] 3] ∧ (k ≤ 4) ∧ zz = 4 - k) _ ⟨_, rfl, 0, h0, rfl, rfl, rfl, rfl, hS, (by decide), rfl⟩ ?_
      clear hS
      rintro f w _ ⟨k, h0, h12, h13, h14, h15, hS, hk, rfl⟩
      refine seq ?_
      refine seq ?_
      refine region ?_
      refine sv (yMove h15) ?_
      refine sv (yLss rfl rfl) ?_
      refine nil ?_
      show Code.wp _ _ _ _ _
      refine cond rfl (fun c104 => ?_) (fun c104 => ?_)
      ·
        simp only [Bool.and_eq_true, Bool.or_eq_true, Bool.and_eq_false_iff, Bool.or_eq_false_iff, decide_eq_true_eq, decide_eq_false_iff_not, Bool.not_eq_true, Bool.not_eq_false, Bool.not_not, Bool.not_eq_eq_eq_not, Bool.not_true, Bool.not_false, Bool.false_eq_true, Bool.true_eq_false, ne_eq, Decidable.not_not, not_false_eq_true, not_true_eq_false] at c104
        have hk4 := knS0 k (by omega)
        refine skip ?_
        show Code.wp _ _ _ _ _
        refine seq ?_
        refine block ?_
        refine seqJ (n := 212) (fun f w => ∃ (b16 : Nat), f 0 = .bool false ∧ f 12 = .slice (some ⟨b96, 0, none⟩) 4 4 ∧ f 13 = .slice (some ⟨b97, 0, none⟩) 4 4 ∧ f 14 = .slice (some ⟨b102, 0, none⟩) 4 4 ∧ f 15 = .int .i64 (k : Int) ∧ f 16 = .pointer (some ⟨b16, 0, none⟩) ∧ f 17 = .int .i64 0 ∧ StX [] w0 w [blk b16 (spanC (knS.getD k ⟨0, 0⟩)) 38, blk b102 [.int .i64 480, .int .i64 520, .int .i64 380, .int .i64 620, .int .i64 480, .int .i64 520, .int .i64 580, .int .i64 630] 38, blk b97 [.int .i64 100, .int .i64 100, .int .i64 110, .int .i64 110] 3, blk b96 [.int .i64 90, .int .i64 92, .int .i64 90, .int .i64 110] 3] ∧ True) ?_ ?_
        ·
          refine region_mix (fun w => StX [] w0 w [blk b102 [.int .i64 480, .int .i64 520, .int .i64 380, .int .i64 620, .int .i64 480, .int .i64 520, .int .i64 580, .int .i64 630] 38, blk b97 [.int .i64 100, .int .i64 100, .int .i64 110, .int .i64 110] 3, blk b96 [.int .i64 90, .int .i64 92, .int .i64 90, .int .i64 110] 3]) 16 mixed hS ?_
          clear hS; intro w hS
          refine f_step 1 (by kernel_rfl) rfl (fun c a a' w h => by obtain ⟨_, v, hv, _⟩ := h; cases hv) (hS.sub (List.Sublist.refl _)) (fun w hS => (yMove h12)) ?_
          refine f_step 2 (by kernel_rfl) rfl (fun c a a' w h => by obtain ⟨_, v, hv, _⟩ := h; cases hv) (hS.sub (List.Sublist.refl _)) (fun w hS => (yMove h15)) ?_
          refine f_step 3 (by kernel_rfl) rfl (fun c a a' w h => by obtain ⟨_, v, hv, _⟩ := h; cases hv) (hS.sub (List.Sublist.refl _)) (fun w hS => (yIx0 rfl rfl Try.runUnderlying44 Try.sizeOf3 (by omega))) ?_
          refine f_step 4 (by kernel_rfl) rfl (fun c a a' w h => by obtain ⟨_, v, hv, _⟩ := h; cases hv) (hS.sub (List.Sublist.refl _)) (fun w hS => (yLd rfl Try.isAgg3 ((flat_cells0 (enc := Bx.encI) encI_len (l := knA) (blk_cells (hS.at b96)) (getD_eq 0 (show k < 4 by omega))).one))) ?_
          refine f_step 5 (by kernel_rfl) rfl (fun c a a' w h => by obtain ⟨_, v, hv, _⟩ := h; cases hv) (hS.sub (List.Sublist.refl _)) (fun w hS => (yMove h13)) ?_
          refine f_step 6 (by kernel_rfl) rfl (fun c a a' w h => by obtain ⟨_, v, hv, _⟩ := h; cases hv) (hS.sub (List.Sublist.refl _)) (fun w hS => (yMove h15)) ?_
          refine f_step 7 (by kernel_rfl) rfl (fun c a a' w h => by obtain ⟨_, v, hv, _⟩ := h; cases hv) (hS.sub (List.Sublist.refl _)) (fun w hS => (yIx0 rfl rfl Try.runUnderlying44 Try.sizeOf3 (by omega))) ?_
          refine f_step 8 (by kernel_rfl) rfl (fun c a a' w h => by obtain ⟨_, v, hv, _⟩ := h; cases hv) (hS.sub (List.Sublist.refl _)) (fun w hS => (yLd rfl Try.isAgg3 ((flat_cells0 (enc := Bx.encI) encI_len (l := knN) (blk_cells (hS.at b97)) (getD_eq 0 (show k < 4 by omega))).one))) ?_
          show wpA _ _ _ _ _ _ _ _ _ _
          refine a_step (i := 0) (is := [13]) (by kernel_rfl) ⟨?_, ?_, trivial⟩
          ·
            refine ⟨_, rfl, ?_⟩
            refine scall Try.call50 .nil c_Gauge ?_
            rintro _ w ⟨csG, rfl, hT, hE⟩; replace hS := hS.step hE; clear hE
            refine nil ?_
            refine ⟨fun _ => (hS.sub (List.Sublist.refl _)), ?_⟩
            show wpA _ _ _ _ _ _ _ _ _ _
            show wpA _ _ _ _ _ _ _ _ _ _
            refine a_step (i := 9) (is := [13]) (by kernel_rfl) ⟨?_, ?_, trivial⟩
            ·
              refine ⟨_, rfl, ?_⟩
              refine scall Try.call26 (.cons rfl (.cons rfl (.cons rfl .nil))) (c_Says hT hk4.1 hk4.2.1) ?_
              rw [hk4.2.2]
              rintro _ w ⟨rfl, hE⟩; replace hS := hS.step hE; clear hE
              refine nil ?_
              refine ⟨fun _ => (hS.sub (List.Sublist.refl _)), ?_⟩
              show wpA _ _ _ _ _ _ _ _ _ _
              refine f_step 10 (by kernel_rfl) rfl (fun c a a' w h => by obtain ⟨_, v, hv, _⟩ := h; cases hv) (hS.sub (List.Sublist.refl _)) (fun w hS => (yMove rfl)) ?_
              refine f_step 11 (by kernel_rfl) rfl (fun c a a' w h => by obtain ⟨_, v, hv, _⟩ := h; cases hv) (hS.sub (List.Sublist.refl _)) (fun w hS => (yExt rfl rfl)) ?_
              refine f_step 12 (by kernel_rfl) rfl (fun c a a' w h => by obtain ⟨_, v, hv, _⟩ := h; cases hv) (hS.sub (List.Sublist.refl _)) (fun w hS => (yExt rfl rfl)) ?_
              show wpA _ _ _ _ _ _ _ _ _ _
              refine a_step (i := 13) (is := []) (by kernel_rfl) ⟨?_, trivial⟩
              refine ⟨_, rfl, ?_⟩
              refine sallocE hS Try.zeroValue38 rfl ?_; clear hS; intro b16 w hS hE; try replace hT := RGauge.stays _ _ _ _ hE hT
              try clear hE
              refine nil ?_
              refine ⟨fun _ => (hS.sub (.cons _ (List.Sublist.refl _))), ?_⟩
              show wpA _ _ _ _ _ _ _ _ _ _
              show wpA _ _ _ _ _ _ _ _ _ _
              refine a_step (i := 14) (is := []) (by kernel_rfl) ⟨?_, trivial⟩
              refine ⟨_, rfl, ?_⟩
              refine sst hS rfl rfl Try.sizeOf38 rfl rfl rfl rfl ?_; clear hS; intro w hS
              refine nil ?_
              refine ⟨fun _ => (hS.sub (.cons _ (List.Sublist.refl _))), ?_⟩
              show wpA _ _ _ _ _ _ _ _ _ _
              refine f_step 15 (by kernel_rfl) rfl (fun c a a' w h => by obtain ⟨_, v, hv, _⟩ := h; cases hv) (hS.sub (.cons _ (List.Sublist.refl _))) (fun w hS => (yAsg rfl)) ?_
              refine a_end (by kernel_rfl) ?_
              exact ⟨_, rfl, _, h0, h12, h13, h14, h15, rfl, rfl, hS, trivial⟩
            ·
              refine ⟨_, rfl, ?_⟩
              refine sallocE hS Try.zeroValue38 rfl ?_; clear hS; intro b16 w hS hE; try replace hT := RGauge.stays _ _ _ _ hE hT
              try clear hE
              refine nil ?_
              refine ⟨fun _ => (hS.sub (.cons _ (List.Sublist.refl _))), ?_⟩
              show wpA _ _ _ _ _ _ _ _ _ _
              show wpA _ _ _ _ _ _ _ _ _ _
              refine a_step (i := 9) (is := []) (by kernel_rfl) ⟨?_, trivial⟩
              refine ⟨_, rfl, ?_⟩
              refine scall Try.call26 (.cons rfl (.cons rfl (.cons rfl .nil))) (c_Says hT hk4.1 hk4.2.1) ?_
              rw [hk4.2.2]
              rintro _ w ⟨rfl, hE⟩; replace hS := hS.step hE; clear hE
              refine nil ?_
              refine ⟨fun _ => (hS.sub (.cons _ (List.Sublist.refl _))), ?_⟩
              show wpA _ _ _ _ _ _ _ _ _ _
              refine f_step 10 (by kernel_rfl) rfl (fun c a a' w h => by obtain ⟨_, v, hv, _⟩ := h; cases hv) (hS.sub (.cons _ (List.Sublist.refl _))) (fun w hS => (yMove rfl)) ?_
              refine f_step 11 (by kernel_rfl) rfl (fun c a a' w h => by obtain ⟨_, v, hv, _⟩ := h; cases hv) (hS.sub (.cons _ (List.Sublist.refl _))) (fun w hS => (yExt rfl rfl)) ?_
              refine f_step 12 (by kernel_rfl) rfl (fun c a a' w h => by obtain ⟨_, v, hv, _⟩ := h; cases hv) (hS.sub (.cons _ (List.Sublist.refl _))) (fun w hS => (yExt rfl rfl)) ?_
              show wpA _ _ _ _ _ _ _ _ _ _
              refine a_step (i := 14) (is := []) (by kernel_rfl) ⟨?_, trivial⟩
              refine ⟨_, rfl, ?_⟩
              refine sst hS rfl rfl Try.sizeOf38 rfl rfl rfl rfl ?_; clear hS; intro w hS
              refine nil ?_
              refine ⟨fun _ => (hS.sub (.cons _ (List.Sublist.refl _))), ?_⟩
              show wpA _ _ _ _ _ _ _ _ _ _
              refine f_step 15 (by kernel_rfl) rfl (fun c a a' w h => by obtain ⟨_, v, hv, _⟩ := h; cases hv) (hS.sub (.cons _ (List.Sublist.refl _))) (fun w hS => (yAsg rfl)) ?_
              refine a_end (by kernel_rfl) ?_
              exact ⟨_, rfl, _, h0, h12, h13, h14, h15, rfl, rfl, hS, trivial⟩
          ·
            refine ⟨_, rfl, ?_⟩
            refine sallocE hS Try.zeroValue38 rfl ?_; clear hS; intro b16 w hS hE; try replace hT := RGauge.stays _ _ _ _ hE hT
            try clear hE
            refine nil ?_
            refine ⟨fun _ => (hS.sub (.cons _ (List.Sublist.refl _))), ?_⟩
            show wpA _ _ _ _ _ _ _ _ _ _
            show wpA _ _ _ _ _ _ _ _ _ _
            refine a_step (i := 0) (is := []) (by kernel_rfl) ⟨?_, trivial⟩
            refine ⟨_, rfl, ?_⟩
            refine scall Try.call50 .nil c_Gauge ?_
            rintro _ w ⟨csG, rfl, hT, hE⟩; replace hS := hS.step hE; clear hE
            refine nil ?_
            refine ⟨fun _ => (hS.sub (.cons _ (List.Sublist.refl _))), ?_⟩
            show wpA _ _ _ _ _ _ _ _ _ _
            show wpA _ _ _ _ _ _ _ _ _ _
            refine a_step (i := 9) (is := []) (by kernel_rfl) ⟨?_, trivial⟩
            refine ⟨_, rfl, ?_⟩
            refine scall Try.call26 (.cons rfl (.cons rfl (.cons rfl .nil))) (c_Says hT hk4.1 hk4.2.1) ?_
            rw [hk4.2.2]
            rintro _ w ⟨rfl, hE⟩; replace hS := hS.step hE; clear hE
            refine nil ?_
            refine ⟨fun _ => (hS.sub (.cons _ (List.Sublist.refl _))), ?_⟩
            show wpA _ _ _ _ _ _ _ _ _ _
            refine f_step 10 (by kernel_rfl) rfl (fun c a a' w h => by obtain ⟨_, v, hv, _⟩ := h; cases hv) (hS.sub (.cons _ (List.Sublist.refl _))) (fun w hS => (yMove rfl)) ?_
            refine f_step 11 (by kernel_rfl) rfl (fun c a a' w h => by obtain ⟨_, v, hv, _⟩ := h; cases hv) (hS.sub (.cons _ (List.Sublist.refl _))) (fun w hS => (yExt rfl rfl)) ?_
            refine f_step 12 (by kernel_rfl) rfl (fun c a a' w h => by obtain ⟨_, v, hv, _⟩ := h; cases hv) (hS.sub (.cons _ (List.Sublist.refl _))) (fun w hS => (yExt rfl rfl)) ?_
            show wpA _ _ _ _ _ _ _ _ _ _
            refine a_step (i := 14) (is := []) (by kernel_rfl) ⟨?_, trivial⟩
            refine ⟨_, rfl, ?_⟩
            refine sst hS rfl rfl Try.sizeOf38 rfl rfl rfl rfl ?_; clear hS; intro w hS
            refine nil ?_
            refine ⟨fun _ => (hS.sub (.cons _ (List.Sublist.refl _))), ?_⟩
            show wpA _ _ _ _ _ _ _ _ _ _
            refine f_step 15 (by kernel_rfl) rfl (fun c a a' w h => by obtain ⟨_, v, hv, _⟩ := h; cases hv) (hS.sub (.cons _ (List.Sublist.refl _))) (fun w hS => (yAsg rfl)) ?_
            refine a_end (by kernel_rfl) ?_
            exact ⟨_, rfl, _, h0, h12, h13, h14, h15, rfl, rfl, hS, trivial⟩
        ·
          clear hS; rintro f w ⟨b16, h0, h12, h13, h14, h15, h16, h17, hS, -⟩
          refine seq ?_
          refine region_draw mixed (by kernel_rfl) hS ?_
          refine qv (fun w hS => (yMove h17)) ?_
          refine qv (fun w hS => (yNeq rfl rfl)) ?_
          refine qv (fun w hS => (yMove rfl)) ?_
          refine qg rfl rfl rfl (fun g w hS => (yLdBA h16 Try.isAgg38 Try.sizeOf38 (hS.at _) rfl rfl)) (fun v123 g123 => ?_)
          refine qg rfl rfl rfl (fun g w hS => (yMove h14)) (fun v124 g124 => ?_)
          refine qg rfl rfl rfl (fun g w hS => (yMove h15)) (fun v125 g125 => ?_)
          refine qg rfl rfl rfl (fun g w hS => (yIx0 (g124.1 g) (g125.1 g) Try.runUnderlying61 Try.sizeOf38 (by omega))) (fun v126 g126 => ?_)
          refine qg rfl rfl rfl (fun g w hS => (yLdA (g126.1 g) Try.isAgg38 Try.sizeOf38 (flat_cells0 spanC_len (l := knS) (blk_cells (hS.at b102)) (getD_eq (⟨0, 0⟩ : Span) (show k < 4 by omega))) rfl)) (fun v127 g127 => ?_)
          refine qg rfl rfl rfl (fun g w hS => (neS38 (g123.1 g) (g127.1 g))) (fun v128 g128 => ?_)
          refine qv (fun w hS => (yOr rfl rfl (fun hB => (g128.1 hB)))) ?_
          clear hS; refine qnil (fun w hS => ?_)
          show Code.wp _ _ _ _ _
          refine cond rfl (fun c129 => ?_) (fun c129 => ?_)
          ·
            exact absurd c129 (by simp)
          ·
            refine skip ?_
            show Code.wp _ _ _ _ _
            refine region ?_
            refine sv (yMove h15) ?_
            refine sv (yAdd rfl rfl ⟨by omega, by omega⟩) ?_
            refine sv (yAsg rfl) ?_
            refine nil ?_
            exact ⟨_, _, rfl, ⟨k + 1, h0, h12, h13, h14, rfl, (hS.sub (.cons _ (List.Sublist.refl _))), (by omega), rfl⟩, by omega⟩
      ·
        simp only [Bool.and_eq_true, Bool.or_eq_true, Bool.and_eq_false_iff, Bool.or_eq_false_iff, decide_eq_true_eq, decide_eq_false_iff_not, Bool.not_eq_true, Bool.not_eq_false, Bool.not_not, Bool.not_eq_eq_eq_not, Bool.not_true, Bool.not_false, Bool.false_eq_true, Bool.true_eq_false, ne_eq, Decidable.not_not, not_false_eq_true, not_true_eq_false] at c104
        refine exit ?_
        show Code.wp _ _ _ _ _
        refine seq ?_
        refine cutK (fun f => f 0 = .bool false ∧ True) ⟨h0, trivial⟩ ?_
        rintro f ⟨h0, -⟩
        replace hS : St w0 w [] := (hS.sub (List.nil_sublist _))
        refine region ?_
        refine scall Try.call50 .nil c_GaugeM ?_
        rintro _ w ⟨d_G, r_G, rfl, hM⟩; replace hS := hS.call2 hM; clear hM
        refine scall Try.call51 (.cons rfl (.cons rfl (.cons rfl (.cons rfl .nil)))) (c_PlainM (by decide)) ?_
        rintro _ w ⟨d_L, r_L, rfl, hM⟩; replace hS := hS.call2 hM; clear hM
        refine sbslice hS Try.underlying66 Try.sizeOf34 rfl Try.zeroValue34 rfl (.cons rfl rfl (.cons rfl rfl .nil)) rfl ?_; clear hS; intro b132 w hS
        refine sv (yAsg rfl) ?_
        refine nil ?_
        show Code.wp _ _ _ _ _
        refine seq ?_
        refine region ?_
        refine sbslice0 hS Try.underlying66 Try.sizeOf34 ?_; clear hS; intro b133 w hS
        refine sv (yMove rfl) ?_
        refine sapp (bytes := 80) (size := 5) (v := (.slice (some ⟨b133, 0, none⟩) 0 0)) (m := 2) hS rfl rfl Try.underlying66 ti34 rfl rfl rfl rfl (by decide) (blk_cells (hS.at b132)) rfl rfl (by omega) (by omega) ?_; clear hS; intro v135 w hS
        refine scall Try.call51 (.cons rfl (.cons rfl (.cons rfl (.cons rfl .nil)))) (c_PlainM (by decide)) ?_
        rintro _ w ⟨d_W, r_W, rfl, hM⟩; replace hS := hS.call2 hM; clear hM
        refine sbslice hS Try.underlying66 Try.sizeOf34 rfl Try.zeroValue34 rfl (.cons rfl rfl .nil) rfl ?_; clear hS; intro b137 w hS
        refine sapp (bytes := 80) (size := 5) (v := v135) (m := 1) hS rfl rfl Try.underlying66 ti34 rfl rfl rfl rfl (by decide) (blk_cells (hS.at _)) rfl rfl (by omega) (by omega) ?_; clear hS; intro v138 w hS
        refine sv (yAsg rfl) ?_
        refine nil ?_
        show Code.wp _ _ _ _ _
        refine seq ?_
        refine cutK (fun f => f 0 = .bool false ∧ f 18 = .slice (some ⟨b132, 0, none⟩) 2 2 ∧ f 19 = v138 ∧ True) ⟨h0, rfl, rfl, trivial⟩ ?_
        rintro f ⟨h0, h18, h19, -⟩
        refine region ?_
        refine sv (yMove h18) ?_
        refine scall Try.call37 (.cons rfl (.cons rfl (.cons rfl (.cons rfl .nil)))) (c_Sound (sl_of_blk (hS.at b132) (css := [[.string ⟨#[112, 105, 101, 114]⟩, .int .i64 20, .int .i64 50, .slice (some ⟨d_G, 0, none⟩) 2 2, .slice (some ⟨r_G, 0, none⟩) 2 2], [.string ⟨#[108, 111, 99, 107]⟩, .int .i64 ((700 - 600) / 2), .int .i64 50, .slice (some ⟨d_L, 0, none⟩) 1 1, .slice (some ⟨r_L, 0, none⟩) 1 1]]) (l := [exG, exL]) rfl ⟨rfl, rgG (hS.at d_G) (hS.at r_G), rfl, rgP (t := 110) (lo := 600) (hi := 700) (hS.at d_L) (hS.at r_L) (by decide) (by decide) (by decide), trivial⟩ (by decide) rfl) (by decide) (by decide) (by decide)) ?_
        rw [kn3]
        rintro _ w ⟨rfl, hE⟩; replace hS := hS.step hE; clear hE
        refine sv (yMove rfl) ?_
        refine sv (yExt rfl rfl) ?_
        refine sv (yExt rfl rfl) ?_
        refine salloc hS Try.zeroValue38 rfl ?_; clear hS; intro b20 w hS
        refine sst hS rfl rfl Try.sizeOf38 rfl rfl rfl rfl ?_; clear hS; intro w hS
        refine sv (yAsg rfl) ?_
        refine nil ?_
        show Code.wp _ _ _ _ _
        refine seq ?_
        refine region ?_
        refine sv (yMove h19) ?_
        refine scall Try.call37 (.cons rfl (.cons rfl (.cons rfl (.cons rfl .nil)))) (c_Sound (sl_of_row (hS.row v138) (css := [[.string ⟨#[112, 105, 101, 114]⟩, .int .i64 20, .int .i64 50, .slice (some ⟨d_G, 0, none⟩) 2 2, .slice (some ⟨r_G, 0, none⟩) 2 2], [.string ⟨#[108, 111, 99, 107]⟩, .int .i64 ((700 - 600) / 2), .int .i64 50, .slice (some ⟨d_L, 0, none⟩) 1 1, .slice (some ⟨r_L, 0, none⟩) 1 1], [.string ⟨#[119, 101, 105, 114]⟩, .int .i64 ((10 - 0) / 2), .int .i64 50, .slice (some ⟨d_W, 0, none⟩) 1 1, .slice (some ⟨r_W, 0, none⟩) 1 1]]) (l := [exG, exL, exW]) ⟨rfl, rgG (hS.at d_G) (hS.at r_G), rfl, rgP (t := 110) (lo := 600) (hi := 700) (hS.at d_L) (hS.at r_L) (by decide) (by decide) (by decide), rfl, rgP (t := 110) (lo := 0) (hi := 10) (hS.at d_W) (hS.at r_W) (by decide) (by decide) (by decide), trivial⟩ rfl) (by decide) (by decide) (by decide)) ?_
        rw [kn4]
        rintro _ w ⟨rfl, hE⟩; replace hS := hS.step hE; clear hE
        refine sv (yMove rfl) ?_
        refine sv (yExt rfl rfl) ?_
        refine sv (yExt rfl rfl) ?_
        refine sv (yAsg rfl) ?_
        refine nil ?_
        show Code.wp _ _ _ _ _
        refine seq ?_
        refine region ?_
        refine sv (yMove h19) ?_
        refine scall Try.call37 (.cons rfl (.cons rfl (.cons rfl (.cons rfl .nil)))) (c_Sound (sl_of_row (hS.row v138) (css := [[.string ⟨#[112, 105, 101, 114]⟩, .int .i64 20, .int .i64 50, .slice (some ⟨d_G, 0, none⟩) 2 2, .slice (some ⟨r_G, 0, none⟩) 2 2], [.string ⟨#[108, 111, 99, 107]⟩, .int .i64 ((700 - 600) / 2), .int .i64 50, .slice (some ⟨d_L, 0, none⟩) 1 1, .slice (some ⟨r_L, 0, none⟩) 1 1], [.string ⟨#[119, 101, 105, 114]⟩, .int .i64 ((10 - 0) / 2), .int .i64 50, .slice (some ⟨d_W, 0, none⟩) 1 1, .slice (some ⟨r_W, 0, none⟩) 1 1]]) (l := [exG, exL, exW]) ⟨rfl, rgG (hS.at d_G) (hS.at r_G), rfl, rgP (t := 110) (lo := 600) (hi := 700) (hS.at d_L) (hS.at r_L) (by decide) (by decide) (by decide), rfl, rgP (t := 110) (lo := 0) (hi := 10) (hS.at d_W) (hS.at r_W) (by decide) (by decide) (by decide), trivial⟩ rfl) (by decide) (by decide) (by decide)) ?_
        rw [kn5]
        rintro _ w ⟨rfl, hE⟩; replace hS := hS.step hE; clear hE
        refine sv (yMove rfl) ?_
        refine sv (yExt rfl rfl) ?_
        refine sv (yExt rfl rfl) ?_
        refine salloc hS Try.zeroValue38 rfl ?_; clear hS; intro b21 w hS
        refine sst hS rfl rfl Try.sizeOf38 rfl rfl rfl rfl ?_; clear hS; intro w hS
        refine sv (yAsg rfl) ?_
        refine nil ?_
        show Code.wp _ _ _ _ _
        refine seq ?_
        refine region ?_
        refine sv (yMove h19) ?_
        refine scall Try.call39 (.cons rfl (.cons rfl (.cons rfl .nil))) (c_Agree (sl_of_row (hS.row v138) (css := [[.string ⟨#[112, 105, 101, 114]⟩, .int .i64 20, .int .i64 50, .slice (some ⟨d_G, 0, none⟩) 2 2, .slice (some ⟨r_G, 0, none⟩) 2 2], [.string ⟨#[108, 111, 99, 107]⟩, .int .i64 ((700 - 600) / 2), .int .i64 50, .slice (some ⟨d_L, 0, none⟩) 1 1, .slice (some ⟨r_L, 0, none⟩) 1 1], [.string ⟨#[119, 101, 105, 114]⟩, .int .i64 ((10 - 0) / 2), .int .i64 50, .slice (some ⟨d_W, 0, none⟩) 1 1, .slice (some ⟨r_W, 0, none⟩) 1 1]]) (l := [exG, exL, exW]) ⟨rfl, rgG (hS.at d_G) (hS.at r_G), rfl, rgP (t := 110) (lo := 600) (hi := 700) (hS.at d_L) (hS.at r_L) (by decide) (by decide) (by decide), rfl, rgP (t := 110) (lo := 0) (hi := 10) (hS.at d_W) (hS.at r_W) (by decide) (by decide) (by decide), trivial⟩ rfl) (by decide) (by decide)) ?_
        rw [kn6]
        rintro _ w ⟨ov, rfl, hM⟩; replace hS := hS.call1 hM; clear hM
        refine sv (yMove rfl) ?_
        refine sv (yExt rfl rfl) ?_
        refine sv (yExt rfl rfl) ?_
        refine sv (yExt rfl rfl) ?_
        refine sv (yAsg rfl) ?_
        refine sv (yAsg rfl) ?_
        refine sv (yAsg rfl) ?_
        refine nil ?_
        show Code.wp _ _ _ _ _
        refine seq ?_
        refine region ?_
        refine scall Try.call50 .nil c_GaugeM ?_
        rintro _ w ⟨d_K, r_K, rfl, hM⟩; replace hS := hS.call2 hM; clear hM
        refine sv (yBuild Try.zeroValue38 rfl pl38 (.cons rfl rfl (.cons rfl rfl .nil)) rfl) ?_
        refine sbslice hS Try.underlying61 Try.sizeOf38 rfl Try.zeroValue38 rfl (.cons rfl rfl .nil) rfl ?_; clear hS; intro b163 w hS
        refine scall Try.call43 (.cons rfl (.cons rfl (.cons rfl (.cons rfl .nil)))) (c_Fit (ks := [⟨590, 595⟩]) (rgG (hS.at d_K) (hS.at r_K)) (sl_of_blk (hS.at b163) (css := [_]) (l := [(⟨590, 595⟩ : Span)]) rfl ⟨rfl, ⟨rfl, by decide, by decide⟩, trivial⟩ (by decide) rfl) (by decide) (by decide)) ?_
        rw [kn7]
        rintro _ w ⟨rfl, hE⟩; replace hS := hS.step hE; clear hE
        refine sv (yMove rfl) ?_
        refine sv (yExt rfl rfl) ?_
        refine sv (yExt rfl rfl) ?_
        refine salloc hS Try.zeroValue38 rfl ?_; clear hS; intro b25 w hS
        refine sst hS rfl rfl Try.sizeOf38 rfl rfl rfl rfl ?_; clear hS; intro w hS
        refine sv (yAsg rfl) ?_
        refine nil ?_
        show Code.wp _ _ _ _ _
        refine seq ?_
        refine cutK (fun f => f 0 = .bool false ∧ f 7 = .int .i64 0 ∧ f 9 = .int .i64 9 ∧ f 11 = .int .i64 0 ∧ f 20 = .pointer (some ⟨b20, 0, none⟩) ∧ f 21 = .pointer (some ⟨b21, 0, none⟩) ∧ f 22 = .int .i64 2 ∧ f 23 = ov ∧ f 24 = .int .i64 0 ∧ f 25 = .pointer (some ⟨b25, 0, none⟩) ∧ f 26 = .int .i64 0 ∧ True) ⟨h0, rfl, rfl, rfl, rfl, rfl, rfl, rfl, rfl, rfl, rfl, trivial⟩ ?_
        rintro f ⟨h0, h7, h9, h11, h20, h21, h22, h23, h24, h25, h26, -⟩
        refine region ?_
        refine sv (yMove h7) ?_
        refine sv (yEql rfl rfl) ?_
        refine sv (yMove rfl) ?_
        refine ungo rfl rfl rfl ?_
        refine sv (yMove h9) ?_
        refine ungo rfl rfl rfl ?_
        refine sv (yEql rfl rfl) ?_
        refine sv (yAnd rfl (fun hB => rfl) rfl) ?_
        refine sv (yMove rfl) ?_
        refine ungo rfl rfl rfl ?_
        refine sv (yMove h11) ?_
        refine ungo rfl rfl rfl ?_
        refine sv (yEql rfl rfl) ?_
        refine sv (yAnd rfl (fun hB => rfl) rfl) ?_
        refine sv (yMove rfl) ?_
        refine ungo rfl rfl rfl ?_
        refine sv (yMove h24) ?_
        refine ungo rfl rfl rfl ?_
        refine sv (yEql rfl rfl) ?_
        refine sv (yAnd rfl (fun hB => rfl) rfl) ?_
        refine sv (yMove rfl) ?_
        refine ungo rfl rfl rfl ?_
        refine sv (yMove h26) ?_
        refine ungo rfl rfl rfl ?_
        refine sv (yEql rfl rfl) ?_
        refine sv (yAnd rfl (fun hB => rfl) rfl) ?_
        refine sv (yMove rfl) ?_
        refine ungo rfl rfl rfl ?_
        refine sv (yLdBA h20 Try.isAgg38 Try.sizeOf38 (hS.at _) rfl rfl) ?_
        refine ungo rfl rfl rfl ?_
        refine sv (yBuild Try.zeroValue38 rfl pl38 (.cons rfl rfl (.cons rfl rfl .nil)) rfl) ?_
        refine ungo rfl rfl rfl ?_
        refine sv (eqS38 rfl rfl) ?_
        refine sv (yAnd rfl (fun hB => rfl) rfl) ?_
        refine sv (yMove rfl) ?_
        refine ungo rfl rfl rfl ?_
        refine sv (yLdBA h21 Try.isAgg38 Try.sizeOf38 (hS.at _) rfl rfl) ?_
        refine ungo rfl rfl rfl ?_
        refine sv (yLdBA h20 Try.isAgg38 Try.sizeOf38 (hS.at _) rfl rfl) ?_
        refine ungo rfl rfl rfl ?_
        refine sv (eqS38 rfl rfl) ?_
        refine sv (yAnd rfl (fun hB => rfl) rfl) ?_
        refine sv (yMove rfl) ?_
        refine ungo rfl rfl rfl ?_
        refine sv (yMove h22) ?_
        refine ungo rfl rfl rfl ?_
        refine sv (yEql rfl rfl) ?_
        refine sv (yAnd rfl (fun hB => rfl) rfl) ?_
        refine sv (yMove rfl) ?_
        refine ungo rfl rfl rfl ?_
        refine sv (yMove h23) ?_
        refine ungo rfl rfl rfl ?_
        refine sbslice hS Try.underlying44 Try.sizeOf3 rfl Try.zeroValue3 rfl (.cons rfl rfl .nil) rfl ?_; clear hS; intro b201 w hS
        refine ungo rfl rfl rfl ?_
        refine scall Try.call41 (.cons rfl (.cons rfl .nil)) (c_Ints (sl_ints (hS.row ov) rfl (by decide)) (ints_sl (b := b201) (l := [2]) (hS.at b201) (by decide) (by decide))) ?_
        rintro _ w ⟨rfl, hE⟩; replace hS := hS.step hE; clear hE
        refine sv (yAnd rfl (fun hB => rfl) rfl) ?_
        refine sv (yMove rfl) ?_
        refine ungo rfl rfl rfl ?_
        refine sv (yLdBA h25 Try.isAgg38 Try.sizeOf38 (hS.at _) rfl rfl) ?_
        refine ungo rfl rfl rfl ?_
        refine sv (yBuild Try.zeroValue38 rfl pl38 (.cons rfl rfl (.cons rfl rfl .nil)) rfl) ?_
        refine ungo rfl rfl rfl ?_
        refine sv (eqS38 rfl rfl) ?_
        refine sv (yAnd rfl (fun hB => rfl) rfl) ?_
        refine sv (yMove rfl) ?_
        refine ungo rfl rfl rfl ?_
        refine scall Try.call23 .nil c_Awake ?_
        rintro _ w ⟨rfl, hE⟩; replace hS := hS.step hE; clear hE
        refine sv (yAnd rfl (fun hB => rfl) rfl) ?_
        refine sv (yAsg rfl) ?_
        refine nil ?_
        show Code.wp _ _ _ _ _
        refine wp_ret ?_
        exact retV (res1 rfl rfl) hS.ext
end Go.Proofs.Ytpgmehignepidaa
