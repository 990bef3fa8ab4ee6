/- Whether a call may be. -/
import Derived.Test.YtmcfbinkofoagaaGreatDA
namespace Go.Proofs.YtmcfbinkofoagaaGreat
open Go Go.RowKit Sx Go.Proofs

mutual
def Cal.isB : Int → Cal → Bool
  | deep, .mk k to n l =>
    if k = 1 then decide ((l.length : Int) = 0) && decide (to = 0) && decide (0 ≤ n ∧ n ≤ 1073741824)
    else if k = 2 then decide ((l.length : Int) = 0) && decide (0 ≤ to ∧ to ≤ 9) && decide (0 ≤ n ∧ n ≤ 1073741824)
    else if k = 3 ∨ k = 4 then decide ((l.length : Int) = 0) && decide (to = 0) && decide (0 ≤ n ∧ n ≤ 11)
    else if k = 5 then decide (deep < 3) && decide (to = 0) && decide (n = 0) && decide (1 ≤ (l.length : Int) ∧ (l.length : Int) ≤ 4) && Cal.isL (deep + 1) l
    else false
def Cal.isL : Int → List Cal → Bool
  | _, [] => true
  | deep, c :: r => c.isB deep && Cal.isL deep r
end
theorem c82 {n a b : Int} {w : World} : Calls Tryz.prog 82 #[.int .i64 n, .int .i64 a, .int .i64 b] w (Ret fun v w' => v = .bool (decide (a ≤ n ∧ n ≤ b)) ∧ w' = w) := by
  refine calls_of_rx (args := [_, _, _]) (e := [(0, _), (1, _), (2, _)]) (n := 15) Tryz.func82 rfl rfl rfl (by kernel_rfl) rfl ?_
  have hC := Ch.refl Nil w
  refine RX.seq ?_; refine RX.region ?_; refine RU.rd (V.as rfl) ?_; refine RU.nil ?_; refine RX.seq ?_; refine RX.region ?_; refine RU.rd (V.mv rfl) ?_; refine RU.rd (V.mv rfl) ?_; refine RU.rd (V.geq rfl rfl) ?_
  refine RU.rd (V.mv rfl) ?_; refine RU.splitD (fun h1 => ?_) fun h1 => ?_
  · refine RU.rdG rfl rfl (V.mv rfl) ?_; refine RU.rdG rfl rfl (V.mv rfl) ?_; refine RU.rdG rfl rfl (V.leq rfl rfl) ?_; refine RU.rd (V.pickT rfl rfl) ?_; refine RU.rd (V.as rfl) ?_; refine RU.nil ?_
    refine RX.rt Tryz.func82 (by rfl) (ResOk.tmp rfl (ResOk.nil)) ?_; simp [tup, *]
  · refine RU.sk rfl rfl rfl ?_; refine RU.sk rfl rfl rfl ?_; refine RU.sk rfl rfl rfl ?_; refine RU.rd (V.pickF rfl rfl) ?_; refine RU.rd (V.as rfl) ?_; refine RU.nil ?_
    refine RX.rt Tryz.func82 (by rfl) (ResOk.tmp rfl (ResOk.nil)) ?_; simp [tup, *]
theorem c83 {n : Int} {w : World} : Calls Tryz.prog 83 #[.int .i64 n] w (Ret fun v w' => v = .bool (decide (0 ≤ n ∧ n ≤ 9)) ∧ w' = w) := by
  refine calls_of_rx (args := [_]) (e := [(0, _)]) (n := 5) Tryz.func83 rfl rfl rfl (by kernel_rfl) rfl ?_
  have hC := Ch.refl Nil w
  refine RX.seq ?_; refine RX.region ?_; refine RU.rd (V.as rfl) ?_; refine RU.nil ?_; refine RX.seq ?_; refine RX.region ?_; refine RU.rd (V.mv rfl) ?_; refine RU.lo (L.call fn82 rfl (c82) ?_); rintro _ w1 ⟨rfl, hq1⟩
  rw [hq1]; clear hq1 w1; refine RU.rd (V.as rfl) ?_; refine RU.nil ?_; refine RX.rt Tryz.func83 (by rfl) (ResOk.tmp rfl (ResOk.nil)) ?_; exact ⟨rfl, rfl⟩
/-- What is said of whether a call may be. -/
def IsOk (c : Cal) : Prop := ∀ (B : Nat → Prop) (w : World) (cs : List Value) (deep : Int), CalR B w c cs → 0 ≤ deep → deep ≤ 3 →
  Calls Tryz.prog 59 #[.agg cs.toArray, .int .i64 deep] w (Ret fun v w' => v = .bool (c.isB deep) ∧ Grow w w')
theorem c84 {c : Cal} (ih : IsOk c) {B : Nat → Prop} {w : World} {cs : List Value} {deep : Int} {b : Nat} (h : CalR B w c cs) (hb : Blk w b [.int .i64 deep] 3) (h0 : 0 ≤ deep) (h1 : deep < 3) :
    Calls Tryz.prog 84 #[.agg cs.toArray, .pointer (some ⟨b, 0, none⟩)] w (Ret fun v w' => v = .bool (!c.isB (deep + 1)) ∧ Grow w w') := by
  obtain ⟨k4, to4, n4, p4, m4, c4, rfl⟩ := h.four
  refine calls_of_rx (args := [_, _]) (e := [(0, _), (1, _)]) (n := 9) Tryz.func84 rfl rfl rfl (by kernel_rfl) rfl ?_
  have hC := Ch.refl Nil w
  have uq := True.intro
  refine RX.seq ?_; refine RX.region ?_; refine RU.lo (L.bx hC rfl fun b1 w1 hb1 le1 hC1 gr1 hz1 hB1 => ?_); refine RU.rd (V.as rfl) ?_; refine RU.nil ?_; refine RX.seq ?_; refine RX.region ?_
  refine RU.rd (V.ldA a26 rfl (cur hB1) (vs := [_, _, _, _]) rfl rfl) ?_; refine RU.rd (V.ld s3 rfl (cur (hb.gr gr1)) rfl) ?_; refine RU.rd (V.add rfl rfl (by omega)) ?_
  refine RU.lo (L.call fn59 rfl (ih B _ _ _ (h.ch hC1 (fun _ _ => id)) (by omega) (by omega)) ?_)
  rintro _ w2 ⟨rfl, gr2⟩
  have hC2 := hC1.trans gr2
  refine RU.rd (V.not rfl) ?_; refine RU.rd (V.as rfl) ?_; refine RU.nil ?_; refine RX.rt Tryz.func84 (by rfl) (ResOk.tmp rfl (ResOk.nil)) ?_
  exact ⟨rfl, hC2⟩
theorem Cal.isL_take {deep : Int} : ∀ {l : List Cal} {i : Nat} (h : i < l.length), Cal.isL deep (l.take i) = true → l[i].isB deep = true → Cal.isL deep (l.take (i + 1)) = true
  | c :: r, 0, _, _, h => by simpa [Cal.isL] using h
  | c :: r, i + 1, hi, h, h2 => by
    simp only [List.take_succ_cons, Cal.isL, Bool.and_eq_true] at h ⊢
    exact ⟨h.1, Cal.isL_take (by simpa using hi) h.2 (by simpa using h2)⟩
theorem Cal.isL_bad {deep : Int} : ∀ {l : List Cal} {i : Nat} (h : i < l.length), l[i].isB deep = false → Cal.isL deep l = false
  | c :: r, 0, _, h => by
    have h : c.isB deep = false := h
    simp [Cal.isL, h]
  | c :: r, i + 1, hi, h => by
    have := Cal.isL_bad (l := r) (i := i) (by simpa using hi) (by simpa using h)
    simp [Cal.isL, this]
theorem c106 {l : List Cal} (ih : ∀ c ∈ l, IsOk c) {B : Nat → Prop} {w : World} {b off c : Nat} {all : List Value} {deep : Int} {db : Nat} (hb : BlkR w b all) (hl : l.length ≤ 1000)
    (hk : ∀ i (hi : i < l.length), CalR B w l[i] ((all.drop (off + i * 4)).take 4)) (hd : Blk w db [.int .i64 deep] 3) (h0 : 0 ≤ deep) (h1 : deep < 3) :
    Calls Tryz.prog 106 #[.slice (some ⟨b, off, none⟩) l.length c, .func (.func 84) #[] #[.pointer (some ⟨db, 0, none⟩)]] w (Ret fun v w' => ∃ r : Int, v = .int .i64 r ∧ decide (0 ≤ r) = (!Cal.isL (deep + 1) l) ∧ Grow w w') := by
  refine calls_of_rx (args := [_, _]) (e := [(0, _), (1, _)]) (n := 19) Tryz.func106 rfl rfl rfl (by kernel_rfl) rfl ?_
  have hC := Ch.refl Nil w
  have uq := True.intro
  refine RX.seq ?_; refine RX.region ?_; refine RU.rd (V.as rfl) ?_; refine RU.nil ?_; refine RX.seq ?_; refine RX.seq ?_; refine RX.region ?_; refine RU.rd (V.mv rfl) ?_; refine RU.rd (V.len u24 rfl) ?_
  refine RU.rd (V.mv rfl) ?_; refine RU.nil ?_; refine RX.block ?_
  refine RX.keep [(0, _), (1, _), (7, _), (8, _)] ⟨rfl, rfl, rfl, rfl, trivial⟩ ?_
  refine RX.loop (fun d e w' => ∃ i : Nat, d = l.length - i ∧ i ≤ l.length ∧ e = [(0, .slice (some ⟨b, off, none⟩) l.length c), (1, .func (.func 84) #[] #[.pointer (some ⟨db, 0, none⟩)]), (7, .int .i64 l.length), (8, .int .i64 i)] ∧ Grow w w' ∧ Cal.isL (deep + 1) (l.take i) = true) (l.length - 0)
    ⟨0, rfl, by omega, rfl, hC, by simp [Cal.isL]⟩ ?_
  rintro d e w' ⟨i, rfl, hi, rfl, hC1, hall⟩ ihl
  refine RX.seq ?_; refine RX.region ?_; refine RU.rd (V.lss rfl rfl) ?_; refine RU.nil ?_; refine RX.seq ?_; refine RX.condD rfl (fun h2 => ?_) fun h2 => ?_
  · have hi' : i < l.length := by omega
    have hk1 := hk i hi'
    obtain ⟨k4, to4, n4, p4, m4, c4, e4⟩ := hk1.four
    rw [e4] at hk1
    have at1 : ∀ j (_ : j = i), (all.drop (off + j * 4)).take 4 = [.int .i64 k4, .int .i64 to4, .int .i64 n4, .slice p4 m4 c4] := by rintro j rfl; exact e4
    refine RX.skip ?_; refine RX.seq ?_; refine RX.block ?_; refine RX.seq ?_; refine RX.region ?_; refine RU.rd (V.mv rfl) ?_; refine RU.rd (V.as rfl) ?_; refine RU.nil ?_; refine RX.seq ?_; refine RX.region ?_
    refine RU.rd (V.mv rfl) ?_; refine RU.rd (V.mv rfl) ?_; refine RU.rd (V.mv rfl) ?_; refine RU.rd (V.idx e24 rfl rfl (by omega)) ?_; refine RU.rd (V.ldAR a26 rfl (cur (hb.gr hC1)) rfl (at1 _ (by omega))) ?_
    refine RU.lo (L.callV fn84 rfl rfl (c84 (ih l[i] (List.getElem_mem hi')) (hk1.ch hC1 (fun _ _ => id)) (hd.gr hC1) h0 h1) ?_)
    rintro _ w2 ⟨rfl, gr2⟩
    have hC2 := hC1.trans gr2
    refine RU.nil ?_; refine RX.cond rfl (fun h3 => ?_) fun h3 => ?_
    · have hb1 : l[i].isB (deep + 1) = false := by simpa using ‹(!Cal.isB (deep + 1) l[i]) = true›
      refine RX.seq ?_; refine RX.region ?_; refine RU.rd (V.mv rfl) ?_; refine RU.rd (V.as rfl) ?_; refine RU.nil ?_; refine RX.rt Tryz.func106 (by rfl) (ResOk.tmp rfl (ResOk.nil)) ?_
      exact ⟨_, rfl, by rw [Cal.isL_bad hi' hb1]; simp, hC2⟩
    · have hb1 : l[i].isB (deep + 1) = true := by simpa using ‹(!Cal.isB (deep + 1) l[i]) = false›
      refine RX.skip ?_; refine RX.inBlock ?_; refine RX.region ?_; refine RU.rd (V.add rfl rfl (by omega)) ?_; refine RU.rd (V.mv rfl) ?_; refine RU.nil ?_
      refine RX.keep [(0, _), (1, _), (7, _), (8, _)] ⟨rfl, rfl, rfl, rfl, trivial⟩ ?_
      exact ihl (l.length - (i + 1)) (by omega) _ _ ⟨i + 1, rfl, by omega, rfl, hC2, Cal.isL_take hi' hall hb1⟩
  · have : i = l.length := by omega
    subst this
    rw [List.take_length] at hall
    refine RX.exit rfl ?_; refine RX.seq ?_; refine RX.region ?_; refine RU.rd (V.as rfl) ?_; refine RU.nil ?_; refine RX.rt Tryz.func106 (by rfl) (ResOk.tmp rfl (ResOk.nil)) ?_
    exact ⟨-1, rfl, by rw [hall]; rfl, hC1⟩
theorem c85 {l : List Cal} (ih : ∀ c ∈ l, IsOk c) {B : Nat → Prop} {w : World} {b off c : Nat} {all : List Value} {deep : Int} {db : Nat} (hb : BlkR w b all) (hl : l.length ≤ 1000)
    (hk : ∀ i (hi : i < l.length), CalR B w l[i] ((all.drop (off + i * 4)).take 4)) (hd : Blk w db [.int .i64 deep] 3) (h0 : 0 ≤ deep) (h1 : deep < 3) :
    Calls Tryz.prog 85 #[.slice (some ⟨b, off, none⟩) l.length c, .func (.func 84) #[] #[.pointer (some ⟨db, 0, none⟩)]] w (Ret fun v w' => v = .bool (!Cal.isL (deep + 1) l) ∧ Grow w w') := by
  refine calls_of_rx (args := [_, _]) (e := [(0, _), (1, _)]) (n := 9) Tryz.func85 rfl rfl rfl (by kernel_rfl) rfl ?_
  have hC := Ch.refl Nil w
  refine RX.seq ?_; refine RX.region ?_; refine RU.rd (V.as rfl) ?_; refine RU.nil ?_; refine RX.seq ?_; refine RX.region ?_; refine RU.rd (V.mv rfl) ?_; refine RU.rd (V.mv rfl) ?_
  refine RU.lo (L.call fn106 rfl (c106 ih hb hl hk hd h0 h1) ?_)
  rintro _ w1 ⟨r, rfl, hr, gr1⟩
  have hC1 := gr1
  refine RU.rd (V.geq rfl rfl) ?_; refine RU.rd (V.as rfl) ?_; refine RU.nil ?_; refine RX.rt Tryz.func85 (by rfl) (ResOk.tmp rfl (ResOk.nil)) ?_
  exact ⟨by rw [← hr]; rfl, hC1⟩
theorem isOk : ∀ c : Cal, IsOk c
  | .mk k to n l => by
    intro B w cs deep h h0 h3
    obtain ⟨p4, c4, rfl, hkids⟩ := h.inv
    refine calls_of_rx (args := [_, _]) (e := [(0, _), (1, _)]) (n := 86) Tryz.func59 rfl rfl rfl (by kernel_rfl) rfl ?_
    have hC := Ch.refl Nil w
    have uq := True.intro
    by_cases h5 : k = 5
    · subst h5
      have e1 : (Cal.mk 5 to n l).isB deep = (decide (deep < 3) && decide (to = 0) && decide (n = 0) && decide (1 ≤ (l.length : Int) ∧ (l.length : Int) ≤ 4) && Cal.isL (deep + 1) l) := by simp [Cal.isB]
      rw [e1]
      refine RX.seq ?_; refine RX.region ?_; refine RU.lo (L.bx hC rfl fun b1 w1 hb1 le1 hC1 gr1 hz1 hB1 => ?_); have l2_hB1 := hB1.lt; refine RU.lo (L.bx hC1 rfl fun b2 w2 hb2 le2 hC2 gr2 hz2 hB2 => ?_); have hB1 := hB1.gr gr2
      refine RU.rd (V.as rfl) ?_; refine RU.nil ?_; refine RX.seq ?_; refine RX.region ?_; refine RU.rd (V.fld0 f26_0 rfl) ?_; refine RU.rd (V.ld s3 rfl (cur hB1) rfl) ?_; refine RU.rd (V.eql rfl rfl) ?_
      refine RU.rd (V.mv rfl) ?_; refine RU.splitD (fun h1 => ?_) (fun _ => by omega); refine RU.sk rfl rfl rfl ?_; refine RU.sk rfl rfl rfl ?_; refine RU.sk rfl rfl rfl ?_; refine RU.sk rfl rfl rfl ?_
      refine RU.rd (V.pickT rfl rfl) ?_; refine RU.rd (V.as rfl) ?_; refine RU.nil ?_; refine RX.seq ?_; refine RX.seq ?_; refine RX.region ?_; refine RU.rd (V.fld0 f26_0 rfl) ?_; refine RU.rd (V.ld s3 rfl (cur hB1) rfl) ?_
      refine RU.nil ?_; refine RX.block ?_; refine RX.seq ?_; refine RX.region ?_; refine RU.rd (V.eql rfl rfl) ?_; refine RU.rd (V.as rfl) ?_; refine RU.nil ?_; refine RX.condF rfl ?_; refine RX.seq ?_; refine RX.region ?_
      refine RU.rd (V.eql rfl rfl) ?_; refine RU.rd (V.as rfl) ?_; refine RU.nil ?_; refine RX.condF rfl ?_; refine RX.seq ?_; refine RX.seq ?_; refine RX.region ?_; refine RU.rd (V.eql rfl rfl) ?_; refine RU.rd (V.as rfl) ?_
      refine RU.nil ?_; refine RX.condF rfl ?_; refine RX.region ?_; refine RU.rd (V.eql rfl rfl) ?_; refine RU.rd (V.as rfl) ?_; refine RU.nil ?_; refine RX.condF rfl ?_; refine RX.seq ?_; refine RX.region ?_
      refine RU.rd (V.eql rfl rfl) ?_; refine RU.rd (V.as rfl) ?_; refine RU.nil ?_; refine RX.condT rfl ?_; refine RX.seq ?_; refine RX.region ?_; refine RU.rd (V.fn rfl) ?_; refine RU.rd (V.as rfl) ?_; refine RU.nil ?_
      refine RX.seq ?_; refine RX.region ?_; refine RU.rd (V.ld s3 rfl (cur hB2) rfl) ?_; refine RU.rd (V.lss rfl rfl) ?_; refine RU.rd (V.mv rfl) ?_; refine RU.splitD (fun h2 => ?_) fun h2 => ?_
      · refine RU.rdG rfl rfl (V.fld0 f26_1 rfl) ?_; refine RU.rdG rfl rfl (V.ld s3 rfl (cur hB1) rfl) ?_; refine RU.rdG rfl rfl (V.eql rfl rfl) ?_; refine RU.rd (V.pickT rfl rfl) ?_; refine RU.rd (V.mv rfl) ?_
        refine RU.splitD (fun h4 => ?_) fun h4 => ?_
        · refine RU.rdG rfl rfl (V.fld0 f26_2 rfl) ?_; refine RU.rdG rfl rfl (V.ld s3 rfl (cur hB1) rfl) ?_; refine RU.rdG rfl rfl (V.eql rfl rfl) ?_; refine RU.rd (V.pickT rfl rfl) ?_; refine RU.rd (V.mv rfl) ?_
          refine RU.splitD (fun h5 => ?_) fun h5 => ?_
          · refine RU.rdG rfl rfl (V.fld0 f26_3 rfl) ?_; refine RU.rdG rfl rfl (V.ld s24 rfl (cur hB1) rfl) ?_; refine RU.rdG rfl rfl (V.len u24 rfl) ?_; refine RU.loG rfl rfl (L.call fn82 rfl (c82) ?_); rintro _ w3 ⟨rfl, hq3⟩
            rw [hq3]; clear hq3 w3; refine RU.rd (V.pickT rfl rfl) ?_; refine RU.rd (V.mv rfl) ?_; refine RU.splitD (fun h6 => ?_) fun h6 => ?_
            · obtain ⟨b, off, all, rfl, hB, hb, hal, hkk⟩ := hkids (by omega)
              refine RU.rdG rfl rfl (V.fld0 f26_3 rfl) ?_; refine RU.rdG rfl rfl (V.ld s24 rfl (cur hB1) rfl) ?_; refine RU.rdG rfl rfl (V.mv rfl) ?_
              refine RU.loG rfl rfl (L.call fn85 rfl (c85 (fun c hc => isOk c) (hb.gr hC2) (by omega) (fun i hi => (hkk i hi).ch hC2 (fun _ _ => id)) hB2 h0 (by omega)) ?_)
              rintro _ w3 ⟨rfl, gr3⟩
              have hC3 := hC2.trans gr3
              refine RU.rdG rfl rfl (V.not rfl) ?_; refine RU.rd (V.pickT rfl rfl) ?_; refine RU.rd (V.as rfl) ?_; refine RU.nil ?_; refine RX.rt Tryz.func59 (by rfl) (ResOk.tmp rfl (ResOk.nil)) ?_
              exact ⟨by simp [tup, *], by assumption⟩
            · refine RU.sk rfl rfl rfl ?_; refine RU.sk rfl rfl rfl ?_; refine RU.sk rfl rfl rfl ?_; refine RU.sk rfl rfl rfl ?_; refine RU.sk rfl rfl rfl ?_; refine RU.rd (V.pickF rfl rfl) ?_; refine RU.rd (V.as rfl) ?_
              refine RU.nil ?_; refine RX.rt Tryz.func59 (by rfl) (ResOk.tmp rfl (ResOk.nil)) ?_
              exact ⟨by simp [tup, *], by assumption⟩
          · refine RU.sk rfl rfl rfl ?_; refine RU.sk rfl rfl rfl ?_; refine RU.sk rfl rfl rfl ?_; refine RU.sk rfl rfl rfl ?_; refine RU.rd (V.pickF rfl rfl) ?_; refine RU.rd (V.mv rfl) ?_; refine RU.sk rfl rfl rfl ?_
            refine RU.sk rfl rfl rfl ?_; refine RU.sk rfl rfl rfl ?_; refine RU.sk rfl rfl rfl ?_; refine RU.sk rfl rfl rfl ?_; refine RU.rd (V.pickF rfl rfl) ?_; refine RU.rd (V.as rfl) ?_; refine RU.nil ?_
            refine RX.rt Tryz.func59 (by rfl) (ResOk.tmp rfl (ResOk.nil)) ?_
            exact ⟨by simp [tup, *], by assumption⟩
        · refine RU.sk rfl rfl rfl ?_; refine RU.sk rfl rfl rfl ?_; refine RU.sk rfl rfl rfl ?_; refine RU.rd (V.pickF rfl rfl) ?_; refine RU.rd (V.mv rfl) ?_; refine RU.sk rfl rfl rfl ?_; refine RU.sk rfl rfl rfl ?_
          refine RU.sk rfl rfl rfl ?_; refine RU.sk rfl rfl rfl ?_; refine RU.rd (V.pickF rfl rfl) ?_; refine RU.rd (V.mv rfl) ?_; refine RU.sk rfl rfl rfl ?_; refine RU.sk rfl rfl rfl ?_; refine RU.sk rfl rfl rfl ?_
          refine RU.sk rfl rfl rfl ?_; refine RU.sk rfl rfl rfl ?_; refine RU.rd (V.pickF rfl rfl) ?_; refine RU.rd (V.as rfl) ?_; refine RU.nil ?_; refine RX.rt Tryz.func59 (by rfl) (ResOk.tmp rfl (ResOk.nil)) ?_
          exact ⟨by simp [tup, *], by assumption⟩
      · refine RU.sk rfl rfl rfl ?_; refine RU.sk rfl rfl rfl ?_; refine RU.sk rfl rfl rfl ?_; refine RU.rd (V.pickF rfl rfl) ?_; refine RU.rd (V.mv rfl) ?_; refine RU.sk rfl rfl rfl ?_; refine RU.sk rfl rfl rfl ?_
        refine RU.sk rfl rfl rfl ?_; refine RU.rd (V.pickF rfl rfl) ?_; refine RU.rd (V.mv rfl) ?_; refine RU.sk rfl rfl rfl ?_; refine RU.sk rfl rfl rfl ?_; refine RU.sk rfl rfl rfl ?_; refine RU.sk rfl rfl rfl ?_
        refine RU.rd (V.pickF rfl rfl) ?_; refine RU.rd (V.mv rfl) ?_; refine RU.sk rfl rfl rfl ?_; refine RU.sk rfl rfl rfl ?_; refine RU.sk rfl rfl rfl ?_; refine RU.sk rfl rfl rfl ?_; refine RU.sk rfl rfl rfl ?_
        refine RU.rd (V.pickF rfl rfl) ?_; refine RU.rd (V.as rfl) ?_; refine RU.nil ?_; refine RX.rt Tryz.func59 (by rfl) (ResOk.tmp rfl (ResOk.nil)) ?_
        exact ⟨by simp [tup, *], by assumption⟩
    · rw [Cal.isB]
      clear hkids h
      generalize l.length = m at *
      refine RX.seq ?_; refine RX.region ?_; refine RU.lo (L.bx hC rfl fun b1 w1 hb1 le1 hC1 gr1 hz1 hB1 => ?_); have l2_hB1 := hB1.lt; refine RU.lo (L.bx hC1 rfl fun b2 w2 hb2 le2 hC2 gr2 hz2 hB2 => ?_); have hB1 := hB1.gr gr2
      refine RU.rd (V.as rfl) ?_; refine RU.nil ?_; refine RX.seq ?_; refine RX.region ?_; refine RU.rd (V.fld0 f26_0 rfl) ?_; refine RU.rd (V.ld s3 rfl (cur hB1) rfl) ?_; refine RU.rd (V.eql rfl rfl) ?_
      refine RU.rd (V.mv rfl) ?_; refine RU.splitD (fun _ => by omega) fun h1 => ?_; refine RU.rdG rfl rfl (V.fld0 f26_3 rfl) ?_; refine RU.rdG rfl rfl (V.ld s24 rfl (cur hB1) rfl) ?_; refine RU.rdG rfl rfl (V.len u24 rfl) ?_
      refine RU.rdG rfl rfl (V.eql rfl rfl) ?_; refine RU.rd (V.pickF rfl rfl) ?_; refine RU.rd (V.as rfl) ?_; refine RU.nil ?_; refine RX.seq ?_; refine RX.seq ?_; refine RX.region ?_; refine RU.rd (V.fld0 f26_0 rfl) ?_
      refine RU.rd (V.ld s3 rfl (cur hB1) rfl) ?_; refine RU.nil ?_; refine RX.block ?_; refine RX.seq ?_; refine RX.region ?_; refine RU.rd (V.eql rfl rfl) ?_; refine RU.rd (V.as rfl) ?_; refine RU.nil ?_
      refine RX.condD rfl (fun h2 => ?_) fun h2 => ?_
      · refine RX.seq ?_; refine RX.region ?_; refine RU.rd (V.mv rfl) ?_; refine RU.rd (V.mv rfl) ?_; refine RU.splitD (fun h4 => ?_) fun h4 => ?_
        · refine RU.rdG rfl rfl (V.fld0 f26_1 rfl) ?_; refine RU.rdG rfl rfl (V.ld s3 rfl (cur hB1) rfl) ?_; refine RU.rdG rfl rfl (V.eql rfl rfl) ?_; refine RU.rd (V.pickT rfl rfl) ?_; refine RU.rd (V.mv rfl) ?_
          refine RU.splitD (fun h6 => ?_) fun h6 => ?_
          · refine RU.rdG rfl rfl (V.fld0 f26_2 rfl) ?_; refine RU.rdG rfl rfl (V.ld s3 rfl (cur hB1) rfl) ?_; refine RU.loG rfl rfl (L.call fn82 rfl (c82) ?_); rintro _ w3 ⟨rfl, hq3⟩; rw [hq3]; clear hq3 w3
            refine RU.rd (V.pickT rfl rfl) ?_; refine RU.rd (V.as rfl) ?_; refine RU.nil ?_; refine RX.rt Tryz.func59 (by rfl) (ResOk.tmp rfl (ResOk.nil)) ?_; exact ⟨by simp [tup, *], by assumption⟩
          · refine RU.sk rfl rfl rfl ?_; refine RU.sk rfl rfl rfl ?_; refine RU.sk rfl rfl rfl ?_; refine RU.rd (V.pickF rfl rfl) ?_; refine RU.rd (V.as rfl) ?_; refine RU.nil ?_
            refine RX.rt Tryz.func59 (by rfl) (ResOk.tmp rfl (ResOk.nil)) ?_; exact ⟨by simp [tup, *], by assumption⟩
        · refine RU.sk rfl rfl rfl ?_; refine RU.sk rfl rfl rfl ?_; refine RU.sk rfl rfl rfl ?_; refine RU.rd (V.pickF rfl rfl) ?_; refine RU.rd (V.mv rfl) ?_; refine RU.sk rfl rfl rfl ?_; refine RU.sk rfl rfl rfl ?_
          refine RU.sk rfl rfl rfl ?_; refine RU.rd (V.pickF rfl rfl) ?_; refine RU.rd (V.as rfl) ?_; refine RU.nil ?_; refine RX.rt Tryz.func59 (by rfl) (ResOk.tmp rfl (ResOk.nil)) ?_
          exact ⟨by simp_all [tup], by assumption⟩
      · refine RX.seq ?_; refine RX.region ?_; refine RU.rd (V.eql rfl rfl) ?_; refine RU.rd (V.as rfl) ?_; refine RU.nil ?_; refine RX.condD rfl (fun h4 => ?_) fun h4 => ?_
        · refine RX.seq ?_; refine RX.region ?_; refine RU.rd (V.mv rfl) ?_; refine RU.rd (V.mv rfl) ?_; refine RU.splitD (fun h6 => ?_) fun h6 => ?_
          · refine RU.rdG rfl rfl (V.fld0 f26_1 rfl) ?_; refine RU.rdG rfl rfl (V.ld s3 rfl (cur hB1) rfl) ?_; refine RU.loG rfl rfl (L.call fn83 rfl (c83) ?_); rintro _ w3 ⟨rfl, hq3⟩; rw [hq3]; clear hq3 w3
            refine RU.rd (V.pickT rfl rfl) ?_; refine RU.rd (V.mv rfl) ?_; refine RU.splitD (fun h7 => ?_) fun h7 => ?_
            · refine RU.rdG rfl rfl (V.fld0 f26_2 rfl) ?_; refine RU.rdG rfl rfl (V.ld s3 rfl (cur hB1) rfl) ?_; refine RU.loG rfl rfl (L.call fn82 rfl (c82) ?_); rintro _ w3 ⟨rfl, hq3⟩; rw [hq3]; clear hq3 w3
              refine RU.rd (V.pickT rfl rfl) ?_; refine RU.rd (V.as rfl) ?_; refine RU.nil ?_; refine RX.rt Tryz.func59 (by rfl) (ResOk.tmp rfl (ResOk.nil)) ?_; exact ⟨by simp [tup, *], by assumption⟩
            · refine RU.sk rfl rfl rfl ?_; refine RU.sk rfl rfl rfl ?_; refine RU.sk rfl rfl rfl ?_; refine RU.rd (V.pickF rfl rfl) ?_; refine RU.rd (V.as rfl) ?_; refine RU.nil ?_
              refine RX.rt Tryz.func59 (by rfl) (ResOk.tmp rfl (ResOk.nil)) ?_; exact ⟨by simp [tup, *], by assumption⟩
          · refine RU.sk rfl rfl rfl ?_; refine RU.sk rfl rfl rfl ?_; refine RU.sk rfl rfl rfl ?_; refine RU.rd (V.pickF rfl rfl) ?_; refine RU.rd (V.mv rfl) ?_; refine RU.sk rfl rfl rfl ?_; refine RU.sk rfl rfl rfl ?_
            refine RU.sk rfl rfl rfl ?_; refine RU.rd (V.pickF rfl rfl) ?_; refine RU.rd (V.as rfl) ?_; refine RU.nil ?_; refine RX.rt Tryz.func59 (by rfl) (ResOk.tmp rfl (ResOk.nil)) ?_
            exact ⟨by simp_all [tup], by assumption⟩
        · refine RX.seq ?_; refine RX.seq ?_; refine RX.region ?_; refine RU.rd (V.eql rfl rfl) ?_; refine RU.rd (V.as rfl) ?_; refine RU.nil ?_; refine RX.condD rfl (fun h6 => ?_) fun h6 => ?_
          · refine RX.skip ?_; refine RX.condD rfl (fun h7 => ?_) (fun _ => by omega); refine RX.seq ?_; refine RX.region ?_; refine RU.rd (V.mv rfl) ?_; refine RU.rd (V.mv rfl) ?_
            refine RU.splitD (fun h8 => ?_) fun h8 => ?_
            · refine RU.rdG rfl rfl (V.fld0 f26_1 rfl) ?_; refine RU.rdG rfl rfl (V.ld s3 rfl (cur hB1) rfl) ?_; refine RU.rdG rfl rfl (V.eql rfl rfl) ?_; refine RU.rd (V.pickT rfl rfl) ?_; refine RU.rd (V.mv rfl) ?_
              refine RU.splitD (fun h9 => ?_) fun h9 => ?_
              · refine RU.rdG rfl rfl (V.fld0 f26_2 rfl) ?_; refine RU.rdG rfl rfl (V.ld s3 rfl (cur hB1) rfl) ?_; refine RU.loG rfl rfl (L.call fn82 rfl (c82) ?_); rintro _ w3 ⟨rfl, hq3⟩; rw [hq3]; clear hq3 w3
                refine RU.rd (V.pickT rfl rfl) ?_; refine RU.rd (V.as rfl) ?_; refine RU.nil ?_; refine RX.rt Tryz.func59 (by rfl) (ResOk.tmp rfl (ResOk.nil)) ?_; exact ⟨by simp [tup, *], by assumption⟩
              · refine RU.sk rfl rfl rfl ?_; refine RU.sk rfl rfl rfl ?_; refine RU.sk rfl rfl rfl ?_; refine RU.rd (V.pickF rfl rfl) ?_; refine RU.rd (V.as rfl) ?_; refine RU.nil ?_
                refine RX.rt Tryz.func59 (by rfl) (ResOk.tmp rfl (ResOk.nil)) ?_; exact ⟨by simp [tup, *], by assumption⟩
            · refine RU.sk rfl rfl rfl ?_; refine RU.sk rfl rfl rfl ?_; refine RU.sk rfl rfl rfl ?_; refine RU.rd (V.pickF rfl rfl) ?_; refine RU.rd (V.mv rfl) ?_; refine RU.sk rfl rfl rfl ?_
              refine RU.sk rfl rfl rfl ?_; refine RU.sk rfl rfl rfl ?_; refine RU.rd (V.pickF rfl rfl) ?_; refine RU.rd (V.as rfl) ?_; refine RU.nil ?_; refine RX.rt Tryz.func59 (by rfl) (ResOk.tmp rfl (ResOk.nil)) ?_
              exact ⟨by simp_all [tup], by assumption⟩
          · refine RX.region ?_; refine RU.rd (V.eql rfl rfl) ?_; refine RU.rd (V.as rfl) ?_; refine RU.nil ?_; refine RX.condD rfl (fun h7 => ?_) fun h7 => ?_
            · refine RX.seq ?_; refine RX.region ?_; refine RU.rd (V.mv rfl) ?_; refine RU.rd (V.mv rfl) ?_; refine RU.splitD (fun h8 => ?_) fun h8 => ?_
              · refine RU.rdG rfl rfl (V.fld0 f26_1 rfl) ?_; refine RU.rdG rfl rfl (V.ld s3 rfl (cur hB1) rfl) ?_; refine RU.rdG rfl rfl (V.eql rfl rfl) ?_; refine RU.rd (V.pickT rfl rfl) ?_
                refine RU.rd (V.mv rfl) ?_; refine RU.splitD (fun h9 => ?_) fun h9 => ?_
                · refine RU.rdG rfl rfl (V.fld0 f26_2 rfl) ?_; refine RU.rdG rfl rfl (V.ld s3 rfl (cur hB1) rfl) ?_; refine RU.loG rfl rfl (L.call fn82 rfl (c82) ?_); rintro _ w3 ⟨rfl, hq3⟩; rw [hq3]; clear hq3 w3
                  refine RU.rd (V.pickT rfl rfl) ?_; refine RU.rd (V.as rfl) ?_; refine RU.nil ?_; refine RX.rt Tryz.func59 (by rfl) (ResOk.tmp rfl (ResOk.nil)) ?_; exact ⟨by simp [tup, *], by assumption⟩
                · refine RU.sk rfl rfl rfl ?_; refine RU.sk rfl rfl rfl ?_; refine RU.sk rfl rfl rfl ?_; refine RU.rd (V.pickF rfl rfl) ?_; refine RU.rd (V.as rfl) ?_; refine RU.nil ?_
                  refine RX.rt Tryz.func59 (by rfl) (ResOk.tmp rfl (ResOk.nil)) ?_; exact ⟨by simp [tup, *], by assumption⟩
              · refine RU.sk rfl rfl rfl ?_; refine RU.sk rfl rfl rfl ?_; refine RU.sk rfl rfl rfl ?_; refine RU.rd (V.pickF rfl rfl) ?_; refine RU.rd (V.mv rfl) ?_; refine RU.sk rfl rfl rfl ?_
                refine RU.sk rfl rfl rfl ?_; refine RU.sk rfl rfl rfl ?_; refine RU.rd (V.pickF rfl rfl) ?_; refine RU.rd (V.as rfl) ?_; refine RU.nil ?_
                refine RX.rt Tryz.func59 (by rfl) (ResOk.tmp rfl (ResOk.nil)) ?_; exact ⟨by simp_all [tup], by assumption⟩
            · refine RX.seq ?_; refine RX.region ?_; refine RU.rd (V.eql rfl rfl) ?_; refine RU.rd (V.as rfl) ?_; refine RU.nil ?_; refine RX.condD rfl (fun _ => by omega) fun h8 => ?_; refine RX.skip ?_
              refine RX.inBlock ?_; refine RX.seq ?_; refine RX.region ?_; refine RU.rd (V.as rfl) ?_; refine RU.nil ?_; refine RX.rt Tryz.func59 (by rfl) (ResOk.tmp rfl (ResOk.nil)) ?_
              exact ⟨by simp [tup, *], by assumption⟩
end Go.Proofs.YtmcfbinkofoagaaGreat
