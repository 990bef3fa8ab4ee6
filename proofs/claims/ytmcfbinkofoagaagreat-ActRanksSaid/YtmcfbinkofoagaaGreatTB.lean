/- Tracks looked through and copied; those of the law. -/
import Derived.Test.YtmcfbinkofoagaaGreatTA
namespace Go.Proofs.YtmcfbinkofoagaaGreat
open Go Go.RowKit Sx Go.Proofs

def trsC (ts : List Trk) : List Value := rws trC ts
theorem trsC_at (ts : List Trk) (sp : List Value) (i : Nat) (h : i < ts.length) : ((trsC ts ++ sp).drop (0 + i * 18)).take 18 = trC ts[i] := by rw [Nat.zero_add]; exact rws_at trC_length sp ts i h
theorem trsC_len (ts : List Trk) (sp : List Value) : (trsC ts ++ sp).length = ts.length * 18 + sp.length := by rw [List.length_append, trsC, rws_length trC_length]

theorem c72 {ts : List Trk} {tb c : Nat} {sp : List Value} {w : World} (hb : Blk w tb (trsC ts ++ sp) 80) (h : ∀ t ∈ ts, t.Ok) (hn : ts.length ≤ 1000) : Calls Tryz.prog 72 #[.slice (some ⟨tb, 0, none⟩) ts.length c, .func (.func 41) #[] #[]] w (Ret fun v w' => v = .int .i64 (-1) ∧ Grow w w') := by
  have at1 := trsC_at ts sp
  have ln1 := trsC_len ts sp
  refine calls_of_rx (args := [_, _]) (e := [(0, _), (1, _)]) (n := 19) Tryz.func72 rfl rfl rfl (by kernel_rfl) rfl ?_
  have hC := Ch.refl Nil w
  refine RX.seq ?_; refine RX.region ?_; refine RU.rd (V.as rfl) ?_; refine RU.nil ?_; refine RX.seq ?_; refine RX.seq ?_; refine RX.region ?_; refine RU.rd (V.mv rfl) ?_; refine RU.rd (V.len u67 rfl) ?_
  refine RU.rd (V.mv rfl) ?_; refine RU.nil ?_; refine RX.block ?_
  refine RX.keep [(0, _), (1, _), (7, _), (8, _)] ⟨rfl, rfl, rfl, rfl, trivial⟩ ?_
  refine RX.loop (fun d e w' => ∃ i : Nat, d = ts.length - i ∧ i ≤ ts.length ∧ e = [(0, .slice (some ⟨tb, 0, none⟩) ts.length c), (1, .func (.func 41) #[] #[]), (7, .int .i64 ts.length), (8, .int .i64 i)] ∧ Grow w w') (ts.length - 0) ⟨0, rfl, by omega, rfl, hC⟩ ?_
  rintro d e w' ⟨i, rfl, hi, rfl, hC1⟩ ih
  refine RX.seq ?_; refine RX.region ?_; refine RU.rd (V.lss rfl rfl) ?_; refine RU.nil ?_; refine RX.seq ?_; refine RX.condD rfl (fun h1 => ?_) fun h1 => ?_
  · have hi' : i < ts.length := by omega
    refine RX.skip ?_; refine RX.seq ?_; refine RX.block ?_; refine RX.seq ?_; refine RX.region ?_; refine RU.rd (V.mv rfl) ?_; refine RU.rd (V.as rfl) ?_; refine RU.nil ?_; refine RX.seq ?_; refine RX.region ?_
    refine RU.rd (V.mv rfl) ?_; refine RU.rd (V.mv rfl) ?_; refine RU.rd (V.mv rfl) ?_; refine RU.rd (V.idx e67 rfl rfl (by omega)) ?_; refine RU.rd (V.ldA a80 rfl (cur (hb.gr hC1)) rfl (at1 _ (by omega))) ?_
    refine RU.lo (L.callV fn41 rfl rfl (c41 (h ts[i] (List.getElem_mem hi'))) ?_)
    rintro _ w1 ⟨rfl, gr1⟩
    have hC2 := hC1.trans gr1
    refine RU.nil ?_; refine RX.condF rfl ?_; refine RX.skip ?_; refine RX.inBlock ?_; refine RX.region ?_; refine RU.rd (V.add rfl rfl (by omega)) ?_; refine RU.rd (V.mv rfl) ?_; refine RU.nil ?_
    refine RX.keep [(0, _), (1, _), (7, _), (8, _)] ⟨rfl, rfl, rfl, rfl, trivial⟩ ?_
    exact ih (ts.length - (i + 1)) (by omega) _ _ ⟨i + 1, rfl, by omega, rfl, hC2⟩
  · refine RX.exit rfl ?_; refine RX.seq ?_; refine RX.region ?_; refine RU.rd (V.as rfl) ?_; refine RU.nil ?_; refine RX.rt Tryz.func72 (by rfl) (ResOk.tmp rfl (ResOk.nil)) ?_
    exact ⟨rfl, hC1⟩
theorem c43 {ts : List Trk} {tb c : Nat} {sp : List Value} {w : World} (hb : Blk w tb (trsC ts ++ sp) 80) (h : ∀ t ∈ ts, t.Ok) (hn : ts.length ≤ 1000) : Calls Tryz.prog 43 #[.slice (some ⟨tb, 0, none⟩) ts.length c, .func (.func 41) #[] #[]] w (Ret fun v w' => v = .bool false ∧ Grow w w') := by
  refine calls_of_rx (args := [_, _]) (e := [(0, _), (1, _)]) (n := 9) Tryz.func43 rfl rfl rfl (by kernel_rfl) rfl ?_
  have hC := Ch.refl Nil w
  refine RX.seq ?_; refine RX.region ?_; refine RU.rd (V.as rfl) ?_; refine RU.nil ?_; refine RX.seq ?_; refine RX.region ?_; refine RU.rd (V.mv rfl) ?_; refine RU.rd (V.mv rfl) ?_
  refine RU.lo (L.call fn72 rfl (c72 hb ?_ ?_) ?_); assumption; assumption; rintro _ w1 ⟨rfl, gr1⟩; have hC1 := hC.trans (Ch.of_grow gr1); refine RU.rd (V.geq rfl rfl) ?_; refine RU.rd (V.as rfl) ?_; refine RU.nil ?_
  refine RX.rt Tryz.func43 (by rfl) (ResOk.tmp rfl (ResOk.nil)) ?_; exact ⟨rfl, by assumption⟩
theorem trC_one (ts : List Trk) : (trsC ts).all (·.oneCell') = true := by
  induction ts with
  | nil => rfl
  | cons t r ih => simp only [trsC, rws, List.all_append, Bool.and_eq_true]; exact ⟨rfl, ih⟩
theorem c44 {ts : List Trk} {tb c : Nat} {sp : List Value} {w : World} (hb : Blk w tb (trsC ts ++ sp) 80) (h0 : 0 < ts.length) (hn : ts.length ≤ 1000) : Calls Tryz.prog 44 #[.slice (some ⟨tb, 0, none⟩) ts.length c] w
    (Ret fun v w' => Grow w w' ∧ ∃ b c sp, v = .slice (some ⟨b, 0, none⟩) ts.length c ∧ w.heap.size ≤ b ∧ Blk w' b (trsC ts ++ sp) 80) := by
  have ln0 : (trsC ts).length = ts.length * 18 := rws_length trC_length ts
  refine calls_of_rx (args := [_]) (e := [(0, _)]) (n := 8) Tryz.func44 rfl rfl rfl (by kernel_rfl) rfl ?_
  have hC := Ch.refl Nil w
  refine RX.seq ?_; refine RX.region ?_; refine RU.rd (V.as rfl) ?_; refine RU.nil ?_; refine RX.seq ?_; refine RX.seq ?_; refine RX.region ?_; refine RU.rd (V.mv rfl) ?_; refine RU.rd (V.slNil u67 rfl rfl) ?_
  refine RU.nil ?_; refine RX.condF rfl ?_; refine RX.skip ?_; refine RX.seq ?_; refine RX.region ?_; refine RU.lo (L.bsl hC e67 z80 rfl rfl rfl rfl fun b1 w1 hb1 le1 hC1 gr1 hz1 hB1 => ?_); refine RU.rd (V.mv rfl) ?_
  have hO : Own w.heap.size w1 18 80 (.slice (some ⟨b1, 0, none⟩) 0 0) [] := .some le1 hB1 rfl rfl rfl (Nat.le_refl _)
  have hR : Rd w1 18 (.slice (some ⟨tb, 0, none⟩) ts.length c) ts.length (trsC ts) := .some (hb.gr gr1) (by rw [trsC_len]; omega) (by rw [List.drop_zero, ← ln0, List.take_left])
  refine RU.lo (L.app hC1 e67 u67 z80 rfl by80 rfl rfl hO hR rfl (trC_one ts) (by rw [ln0]; simp; omega) fun u w2 hC2 ch2 hO2 hin => ?_)
  obtain ⟨b, n, c2, sp2, rfl, h2, h3, h4⟩ := hO2.blk (by simp [ln0]; omega)
  have h5 : n = ts.length := by simp [ln0] at h3; omega
  subst h5
  refine RU.rd (V.as rfl) ?_; refine RU.nil ?_; refine RX.rt Tryz.func44 (by rfl) (ResOk.tmp rfl (ResOk.nil)) ?_
  exact ⟨hC2, b, c2, sp2, rfl, h2, h4⟩
theorem c45 {w : World} : Calls Tryz.prog 45 #[] w (Ret fun v w' => ∃ b, v = .pointer (some ⟨b, 0, none⟩) ∧ Grow w w' ∧ b = w.heap.size ∧ w'.heap.size = b + 1 ∧ Blk w' b [.slice none 0 0] 150) := by
  refine calls_of_rx (args := []) (e := []) (n := 3) Tryz.func45 rfl rfl rfl (by kernel_rfl) rfl ?_
  have hC := Ch.refl Nil w
  refine RX.seq ?_; refine RX.region ?_; refine RU.rd (V.as rfl) ?_; refine RU.nil ?_; refine RX.seq ?_; refine RX.region ?_; refine RU.rd (V.bld bf150 z150 rfl rfl) ?_
  refine RU.lo (L.bx hC rfl fun b1 w1 hb1 le1 hC1 gr1 hz1 hB1 => ?_); refine RU.rd (V.as rfl) ?_; refine RU.nil ?_; refine RX.rt Tryz.func45 (by rfl) (ResOk.tmp rfl (ResOk.nil)) ?_
  exact ⟨b1, rfl, hC1, hb1, hz1, hB1⟩
theorem c48 {w : World} : Calls Tryz.prog 48 #[] w (Ret fun v w' => ∃ b, v = .pointer (some ⟨b, 0, none⟩) ∧ Grow w w' ∧ b = w.heap.size ∧ w'.heap.size = b + 1 ∧ Blk w' b [.slice none 0 0] 161) := by
  refine calls_of_rx (args := []) (e := []) (n := 3) Tryz.func48 rfl rfl rfl (by kernel_rfl) rfl ?_
  have hC := Ch.refl Nil w
  refine RX.seq ?_; refine RX.region ?_; refine RU.rd (V.as rfl) ?_; refine RU.nil ?_; refine RX.seq ?_; refine RX.region ?_; refine RU.rd (V.bld bf161 z161 rfl rfl) ?_
  refine RU.lo (L.bx hC rfl fun b1 w1 hb1 le1 hC1 gr1 hz1 hB1 => ?_); refine RU.rd (V.as rfl) ?_; refine RU.nil ?_; refine RX.rt Tryz.func48 (by rfl) (ResOk.tmp rfl (ResOk.nil)) ?_
  exact ⟨b1, rfl, hC1, hb1, hz1, hB1⟩
theorem c49 {w : World} : Calls Tryz.prog 49 #[] w (Ret fun v w' => ∃ b, v = .pointer (some ⟨b, 0, none⟩) ∧ Grow w w' ∧ b = w.heap.size ∧ w'.heap.size = b + 1 ∧ Blk w' b [.slice none 0 0] 164) := by
  refine calls_of_rx (args := []) (e := []) (n := 3) Tryz.func49 rfl rfl rfl (by kernel_rfl) rfl ?_
  have hC := Ch.refl Nil w
  refine RX.seq ?_; refine RX.region ?_; refine RU.rd (V.as rfl) ?_; refine RU.nil ?_; refine RX.seq ?_; refine RX.region ?_; refine RU.rd (V.bld bf164 z164 rfl rfl) ?_
  refine RU.lo (L.bx hC rfl fun b1 w1 hb1 le1 hC1 gr1 hz1 hB1 => ?_); refine RU.rd (V.as rfl) ?_; refine RU.nil ?_; refine RX.rt Tryz.func49 (by rfl) (ResOk.tmp rfl (ResOk.nil)) ?_
  exact ⟨b1, rfl, hC1, hb1, hz1, hB1⟩
/-- A new Refer. -/
theorem c19 {ts : List Trk} {tb c : Nat} {sp : List Value} {w : World} (hb : Blk w tb (trsC ts ++ sp) 80) (h : ∀ t ∈ ts, t.Ok) (h0 : 0 < ts.length) (hn : ts.length ≤ 4) : Calls Tryz.prog 19 #[.slice (some ⟨tb, 0, none⟩) ts.length c] w
    (Ret fun v w' => Grow w w' ∧ ∃ rb tb c sp gb, v = .tuple #[.pointer (some ⟨rb, 0, none⟩), .int .i64 0] ∧ w.heap.size ≤ tb ∧ tb < gb ∧ gb < rb ∧ Blk w' rb [.slice (some ⟨tb, 0, none⟩) ts.length c, .pointer (some ⟨gb, 0, none⟩)] 90 ∧ Blk w' tb (trsC ts ++ sp) 80 ∧ Blk w' gb [.slice none 0 0] 150) := by
  refine calls_of_rx (args := [_]) (e := [(0, _)]) (n := 23) Tryz.func19 rfl rfl rfl (by kernel_rfl) rfl ?_
  have hC := Ch.refl Nil w
  refine RX.seq ?_; refine RX.region ?_; refine RU.rd (V.as rfl) ?_; refine RU.rd (V.as rfl) ?_; refine RU.nil ?_; refine RX.seq ?_; refine RX.region ?_; refine RU.rd (V.as rfl) ?_; refine RU.nil ?_; refine RX.seq ?_
  refine RX.seq ?_; refine RX.region ?_; refine RU.rd (V.mv rfl) ?_; refine RU.rd (V.len u67 rfl) ?_; refine RU.rd (V.eql rfl rfl) ?_; refine RU.rd (V.mv rfl) ?_; refine RU.splitD (fun _ => by omega) fun h1 => ?_
  refine RU.rdG rfl rfl (V.mv rfl) ?_; refine RU.rdG rfl rfl (V.len u67 rfl) ?_; refine RU.rdG rfl rfl (V.gtr rfl rfl) ?_; refine RU.rd (V.pickF rfl rfl) ?_; refine RU.rd (V.mv rfl) ?_
  refine RU.splitD (fun _ => by omega) fun h2 => ?_; refine RU.rdG rfl rfl (V.mv rfl) ?_; refine RU.rdG rfl rfl (V.mv rfl) ?_; refine RU.loG rfl rfl (L.call fn43 rfl (c43 hb ?_ ?_) ?_); assumption; omega
  rintro _ w1 ⟨rfl, gr1⟩; have hC1 := hC.trans (Ch.of_grow gr1); refine RU.rd (V.pickF rfl rfl) ?_; refine RU.nil ?_; refine RX.condF rfl ?_; refine RX.skip ?_; refine RX.seq ?_; refine RX.region ?_
  refine RU.rd (V.mv rfl) ?_
  refine RU.lo (L.call fn44 rfl (c44 (hb.gr gr1) h0 (by omega)) ?_)
  rintro _ w2 ⟨gr2, tb', c', sp', rfl, le2, hB2⟩
  have hC2 := hC1.trans gr2
  skip
  refine RU.lo (L.call fn45 rfl c45 ?_)
  rintro _ w3 ⟨gb, rfl, gr3, hgb, hz3, hB3⟩
  have hC3 := hC2.trans gr3
  have uq := True.intro
  have l2 := hB2.lt
  replace hB2 := hB2.gr gr3
  refine RU.rd (V.bld bf90 z90 rfl rfl) ?_; have l4_hB3 := hB3.lt; have l4_hB2 := hB2.lt; refine RU.lo (L.bx hC3 rfl fun b4 w4 hb4 le4 hC4 gr4 hz4 hB4 => ?_); have hB3 := hB3.gr gr4; have hB2 := hB2.gr gr4
  refine RU.rd (V.as rfl) ?_; refine RU.rd (V.as rfl) ?_; refine RU.nil ?_; refine RX.rt Tryz.func19 (by rfl) (ResOk.tmp rfl (ResOk.tmp rfl (ResOk.nil))) ?_
  have := gr1.size
  exact ⟨hC4, b4, tb', c', sp', gb, rfl, by omega, by omega, by omega, hB4, hB2, hB3⟩
/-- A new Refer of the document's. -/
theorem c21 {ts : List Trk} {tb c : Nat} {sp : List Value} {w : World} (hb : Blk w tb (trsC ts ++ sp) 80) (h : ∀ t ∈ ts, t.Ok) (h0 : 0 < ts.length) (hn : ts.length ≤ 4) : Calls Tryz.prog 21 #[.slice (some ⟨tb, 0, none⟩) ts.length c] w
    (Ret fun v w' => Grow w w' ∧ ∃ rb tb c sp, v = .tuple #[.pointer (some ⟨rb, 0, none⟩), .int .i64 0] ∧ w.heap.size ≤ tb ∧ tb < rb ∧ Blk w' rb [.slice (some ⟨tb, 0, none⟩) ts.length c, .slice none 0 0] 98 ∧ Blk w' tb (trsC ts ++ sp) 80) := by
  have at1 := trsC_at ts sp
  have ln1 := trsC_len ts sp
  refine calls_of_rx (args := [_]) (e := [(0, _)]) (n := 30) Tryz.func21 rfl rfl rfl (by kernel_rfl) rfl ?_
  have hC := Ch.refl Nil w
  refine RX.seq ?_; refine RX.region ?_; refine RU.rd (V.as rfl) ?_; refine RU.rd (V.as rfl) ?_; refine RU.nil ?_; refine RX.seq ?_; refine RX.seq ?_; refine RX.region ?_; refine RU.rd (V.mv rfl) ?_
  refine RU.rd (V.len u67 rfl) ?_; refine RU.rd (V.lss rfl rfl) ?_; refine RU.rd (V.mv rfl) ?_; refine RU.splitD (fun _ => by omega) fun h1 => ?_; refine RU.rdG rfl rfl (V.mv rfl) ?_
  refine RU.rdG rfl rfl (V.len u67 rfl) ?_; refine RU.rdG rfl rfl (V.gtr rfl rfl) ?_; refine RU.rd (V.pickF rfl rfl) ?_; refine RU.nil ?_; refine RX.condD rfl (fun _ => by omega) fun h2 => ?_; refine RX.skip ?_
  refine RX.seq ?_; refine RX.seq ?_; refine RX.region ?_; refine RU.rd (V.as rfl) ?_; refine RU.nil ?_; refine RX.block ?_
  refine RX.keep [(0, _), (4, _)] ⟨rfl, rfl, trivial⟩ ?_
  refine RX.loop (fun d e w' => ∃ i : Nat, d = ts.length - i ∧ i ≤ ts.length ∧ e = [(0, .slice (some ⟨tb, 0, none⟩) ts.length c), (4, .int .i64 i)] ∧ Grow w w') (ts.length - 0) ⟨0, rfl, by omega, rfl, hC⟩ ?_
  rintro d e w' ⟨i, rfl, hi, rfl, hC1⟩ ih
  refine RX.seq ?_; refine RX.seq ?_; refine RX.region ?_; refine RU.rd (V.mv rfl) ?_; refine RU.rd (V.mv rfl) ?_; refine RU.rd (V.len u67 rfl) ?_; refine RU.rd (V.lss rfl rfl) ?_; refine RU.nil ?_
  refine RX.condD rfl (fun h3 => ?_) fun h3 => ?_
  · have hi' : i < ts.length := by omega
    have hti := h ts[i] (List.getElem_mem hi')
    refine RX.skip ?_; refine RX.seq ?_; refine RX.block ?_; refine RX.seq ?_; refine RX.region ?_; refine RU.rd (V.mv rfl) ?_; refine RU.rd (V.mv rfl) ?_; refine RU.rd (V.idx e67 rfl rfl (by omega)) ?_
    refine RU.rd (V.ldA a80 rfl (cur (hb.gr hC1)) rfl (at1 _ (by omega))) ?_; refine RU.lo (L.call fn47 rfl (c47 ?_) ?_); assumption; rintro _ w1 ⟨rfl, gr1⟩; have hC1 := hC1.trans (Ch.of_grow gr1); refine RU.rd (V.not rfl) ?_
    refine RU.nil ?_; refine RX.condF rfl ?_; refine RX.skip ?_; refine RX.inBlock ?_; refine RX.region ?_; refine RU.rd (V.mv rfl) ?_; refine RU.rd (V.add rfl rfl (by omega)) ?_; refine RU.rd (V.as rfl) ?_; refine RU.nil ?_
    refine RX.keep [(0, _), (4, _)] ⟨rfl, rfl, trivial⟩ ?_
    exact ih (ts.length - (i + 1)) (by omega) _ _ ⟨i + 1, rfl, by omega, rfl, by assumption⟩
  · refine RX.exit rfl ?_; refine RX.seq ?_; refine RX.region ?_; refine RU.lo (L.bsl hC1 e67 z80 rfl rfl rfl rfl fun b1 w1 hb1 le1 hC1 gr1 hz1 hB1 => ?_); refine RU.rd (V.mv rfl) ?_
    have ln0 : (trsC ts).length = ts.length * 18 := rws_length trC_length ts
    have hO : Own w.heap.size w1 18 80 (.slice (some ⟨b1, 0, none⟩) 0 0) [] := .some le1 hB1 rfl rfl rfl (Nat.le_refl _)
    have hR : Rd w1 18 (.slice (some ⟨tb, 0, none⟩) ts.length c) ts.length (trsC ts) := .some (hb.gr hC1) (by rw [trsC_len]; omega) (by rw [List.drop_zero, ← ln0, List.take_left])
    refine RU.lo (L.app hC1 e67 u67 z80 rfl by80 rfl rfl hO hR rfl (trC_one ts) (by rw [ln0]; simp; omega) fun u w2 hC2 ch2 hO2 hin => ?_)
    obtain ⟨b, n, c2, sp2, rfl, h2, h3, h4⟩ := hO2.blk (by simp [ln0]; omega)
    have h5 : n = ts.length := by simp [ln0] at h3; omega
    subst h5
    have uq := True.intro
    have h6 := h4.lt
    refine RU.rd (V.bld bf98 z98 rfl rfl) ?_; have l3_h4 := h4.lt; refine RU.lo (L.bx hC2 rfl fun b3 w3 hb3 le3 hC3 gr3 hz3 hB3 => ?_); have h4 := h4.gr gr3; refine RU.rd (V.as rfl) ?_; refine RU.rd (V.as rfl) ?_
    refine RU.nil ?_; refine RX.rt Tryz.func21 (by rfl) (ResOk.tmp rfl (ResOk.tmp rfl (ResOk.nil))) ?_
    exact ⟨hC3, b3, b, c2, sp2, rfl, h2, by omega, hB3, h4⟩
theorem c46 {a : Int} {w : World} : Calls Tryz.prog 46 #[.int .i64 a] w (Ret fun v w' => v = .agg #[.int .i64 1, .int .i64 a, .int .i64 a, .int .i64 1, .int .i64 0] ∧ Grow w w') := by
  refine calls_of_rx (args := [_]) (e := [(0, _)]) (n := 6) Tryz.func46 rfl rfl rfl (by kernel_rfl) rfl ?_
  have hC := Ch.refl Nil w
  refine RX.seq ?_; refine RX.region ?_; refine RU.lo (L.al hC z78 fun b1 w1 hb1 le1 hC1 gr1 hz1 hB1 => ?_); refine RU.nil ?_; refine RX.seq ?_; refine RX.region ?_; refine RU.rd (V.mv rfl) ?_; refine RU.rd (V.mv rfl) ?_
  refine RU.rd (V.bld bf78 z78 rfl rfl) ?_; refine RU.lo0 (L.stN hC1 sz78 rfl rfl rfl rfl hB1 rfl le1 fun w2 hC2 ch2 hz2 hB1 => ?_); refine RU.nil ?_
  refine RX.rt Tryz.func46 (by rfl) (ResOk.cellA rfl a78 hB1 (Nat.le_of_ble_eq_true rfl) (us := [_, _, _, _, _]) rfl (ResOk.nil)) ?_; exact ⟨rfl, by assumption⟩
theorem c22 {w : World} : Calls Tryz.prog 22 #[] w (Ret fun v w' => Grow w w' ∧ ∃ vb g1 g2, v = .pointer (some ⟨vb, 0, none⟩) ∧ w.heap.size ≤ g1 ∧ g1 < g2 ∧ g2 < vb ∧
    Blk w' vb [.pointer none, .pointer none, .pointer none, .pointer none, .pointer none, .pointer none, .pointer none, .pointer none, .pointer none, .pointer none, .pointer none, .pointer none, .pointer (some ⟨g1, 0, none⟩), .pointer (some ⟨g2, 0, none⟩)] 130 ∧ Blk w' g1 [.slice none 0 0] 161 ∧ Blk w' g2 [.slice none 0 0] 164) := by
  refine calls_of_rx (args := []) (e := []) (n := 5) Tryz.func22 rfl rfl rfl (by kernel_rfl) rfl ?_
  have hC := Ch.refl Nil w
  refine RX.seq ?_; refine RX.region ?_; refine RU.rd (V.as rfl) ?_; refine RU.nil ?_; refine RX.seq ?_; refine RX.region ?_
  refine RU.lo (L.call fn48 rfl c48 ?_)
  rintro _ w1 ⟨g1, rfl, gr1, hg1, hz1, hG1⟩
  have hC1 := hC.trans gr1
  skip
  refine RU.lo (L.call fn49 rfl c49 ?_)
  rintro _ w2 ⟨g2, rfl, gr2, hg2, hz2, hG2⟩
  have hC2 := hC1.trans gr2
  replace hG1 := hG1.gr gr2
  have uq := True.intro
  refine RU.rd (V.bld bf130 z130 rfl rfl) ?_; have l3_hG2 := hG2.lt; have l3_hG1 := hG1.lt; refine RU.lo (L.bx hC2 rfl fun b3 w3 hb3 le3 hC3 gr3 hz3 hB3 => ?_); have hG2 := hG2.gr gr3; have hG1 := hG1.gr gr3
  refine RU.rd (V.as rfl) ?_; refine RU.nil ?_; refine RX.rt Tryz.func22 (by rfl) (ResOk.tmp rfl (ResOk.nil)) ?_
  exact ⟨hC3, b3, g1, g2, rfl, by omega, by omega, by omega, hB3, hG1, hG2⟩
/-- The law's tracks. -/
def theTracks : List Trk :=
  [⟨1, 20, 2, 10, 3, 1, ⟨1, 500000000, 500000000, 1, 0⟩, ⟨1, 0, 0, 1, 0⟩, 5, 0⟩,
   ⟨1, 20, 2, 10, 3, 1, ⟨1, 500000000, 500000000, 1, 0⟩, ⟨1, 0, 0, 1, 0⟩, 50, 1⟩,
   ⟨1, 20, 2, 10, 3, 1, ⟨1, 500000000, 500000000, 1, 0⟩, ⟨1, 0, 0, 1, 0⟩, 5000, 2⟩]
theorem c20 {w : World} : Calls Tryz.prog 20 #[] w (Ret fun v w' => Grow w w' ∧ ∃ b, v = .slice (some ⟨b, 0, none⟩) 3 3 ∧ w.heap.size ≤ b ∧ Blk w' b (trsC theTracks) 80) := by
  refine calls_of_rx (args := []) (e := []) (n := 17) Tryz.func20 rfl rfl rfl (by kernel_rfl) rfl ?_
  have hC := Ch.refl Nil w
  have nodraw := True.intro
  have uq := True.intro
  refine RX.seq ?_; refine RX.region ?_; refine RU.rd (V.as rfl) ?_; refine RU.nil ?_; refine RX.seq ?_; refine RX.region ?_; refine RU.lo (L.call fn46 rfl (c46) ?_); rintro _ w1 ⟨rfl, gr1⟩
  have hC1 := hC.trans (Ch.of_grow gr1); refine RU.lo (L.call fn46 rfl (c46) ?_); rintro _ w2 ⟨rfl, gr2⟩; have hC2 := hC1.trans (Ch.of_grow gr2); refine RU.rd (V.bld bf80 z80 rfl rfl) ?_
  refine RU.lo (L.al hC2 z80 fun b3 w3 hb3 le3 hC3 gr3 hz3 hB3 => ?_); refine RU.lo0 (L.stN hC3 sz80 rfl rfl rfl rfl hB3 rfl le3 fun w4 hC4 ch4 hz4 hB3 => ?_); refine RU.nil ?_; refine RX.seq ?_
  clear nodraw
  have hb : Blk w4 b3 [.int .i64 1, .int .i64 20, .int .i64 2, .int .i64 10, .int .i64 3, .int .i64 1, .int .i64 1, .int .i64 500000000, .int .i64 500000000, .int .i64 1, .int .i64 0, .int .i64 1, .int .i64 0, .int .i64 0, .int .i64 1, .int .i64 0, .int .i64 5, .int .i64 0] 80 := hB3
  refine RX.keep [(1, _)] ⟨rfl, trivial⟩ ?_
  clear hB3
  refine RX.draw2 (Ch Nil w4) [0, 1] [(0, true), (1, true)] 2 3 [(3, false), (4, false), (5, false)] [(2, false), (4, false), (5, false)] [(0, true), (1, true), (2, false), (3, false), (4, false), (5, false)] [(0, true), (1, true), (3, false), (2, false), (4, false), (5, false)] rfl rfl mixed (by kernel_rfl) (fun w5 gr5 hz5 => ?_) (fun w5 gr5 hz5 => ?_)
  · have hC5 := hC4.trans gr5
    refine RD.rd rfl rfl gr5 (V.ldA a80 rfl (fun _ hS => hb.gr hS) (vs := [_, _, _, _, _, _, _, _, _, _, _, _, _, _, _, _, _, _]) rfl rfl) ?_
    refine RD.rd rfl rfl gr5 (V.ldA a80 rfl (fun _ hS => hb.gr hS) (vs := [_, _, _, _, _, _, _, _, _, _, _, _, _, _, _, _, _, _]) rfl rfl) ?_
    refine RD.lo rfl (L.al hC5 z80 fun b6 w6 hb6 le6 hC6 gr6 hz6 hB6 => ⟨gr5.trans (Ch.of_grow gr6), ?_⟩); have hS6 := gr5.trans (Ch.of_grow gr6); have l7_hB6 := hB6.lt
    refine RD.lo rfl (L.al hC6 z80 fun b7 w7 hb7 le7 hC7 gr7 hz7 hB7 => ⟨hS6.trans (Ch.of_grow gr7), ?_⟩); have hS7 := hS6.trans (Ch.of_grow gr7); have hB6a7 := hB6.gr gr7
    have hB7 := hB7
    refine RD.lo0 rfl (L.stN hC7 sz80 rfl rfl rfl rfl hB6a7 rfl le6 fun w8 hC8 ch8 hz8 hC1x => ⟨hS7.trans' ch8 (by rintro b hb rfl; omega), ?_⟩)
    have hB7 := hB7.ch ch8 (by omega)
    refine RD.lf0 rfl (by kernel_rfl) (L.stN hC8 sz80 rfl rfl rfl rfl hB7 rfl le7 fun w9 hC9 ch9 hz9 hB7 => ?_)
    have hC1x := hC1x.ch ch9 (by omega)
    replace hb := (((((hb.gr gr5).gr gr6).gr gr7).ch ch8 (by omega)).ch ch9 (by omega))
    refine RD.nil ?_; refine RX.seq ?_; refine RX.region ?_; refine RU.rd (V.fld0 f80_9 rfl) ?_; refine RU.lo0 (L.stN hC9 sz3 rfl rfl rfl rfl hC1x rfl le6 fun w10 hC10 ch10 hz10 hC1x => ?_); have hB7 := hB7.ch ch10 (by omega)
    have hb := hb.ch ch10 (by omega); refine RU.rd (V.fld0 f80_8 rfl) ?_; refine RU.lo0 (L.stN hC10 sz3 rfl rfl rfl rfl hC1x rfl le6 fun w11 hC11 ch11 hz11 hC1x => ?_); have hB7 := hB7.ch ch11 (by omega)
    have hb := hb.ch ch11 (by omega); refine RU.nil ?_; refine RX.seq ?_; refine RX.region ?_; refine RU.rd (V.fld0 f80_9 rfl) ?_; refine RU.lo0 (L.stN hC11 sz3 rfl rfl rfl rfl hB7 rfl le7 fun w12 hC12 ch12 hz12 hB7 => ?_)
    have hC1x := hC1x.ch ch12 (by omega); have hb := hb.ch ch12 (by omega); refine RU.rd (V.fld0 f80_8 rfl) ?_; refine RU.lo0 (L.stN hC12 sz3 rfl rfl rfl rfl hB7 rfl le7 fun w13 hC13 ch13 hz13 hB7 => ?_)
    have hC1x := hC1x.ch ch13 (by omega); have hb := hb.ch ch13 (by omega); refine RU.nil ?_; refine RX.seq ?_; refine RX.region ?_
    refine RU.rd (V.ldA a80 rfl (cur hb) (vs := [_, _, _, _, _, _, _, _, _, _, _, _, _, _, _, _, _, _]) rfl rfl) ?_
    refine RU.rd (V.ldA a80 rfl (cur hC1x) (vs := [_, _, _, _, _, _, _, _, _, _, _, _, _, _, _, _, _, _]) rfl rfl) ?_
    refine RU.rd (V.ldA a80 rfl (cur hB7) (vs := [_, _, _, _, _, _, _, _, _, _, _, _, _, _, _, _, _, _]) rfl rfl) ?_; have l14_hB7 := hB7.lt; have l14_hC1x := hC1x.lt; have l14_hb := hb.lt
    refine RU.lo (L.bsl hC13 e67 z80 rfl rfl rfl rfl fun b14 w14 hb14 le14 hC14 gr14 hz14 hB14 => ?_); have hB7 := hB7.gr gr14; have hC1x := hC1x.gr gr14; have hb := hb.gr gr14; refine RU.rd (V.as rfl) ?_; refine RU.nil ?_
    refine RX.rt Tryz.func20 (by rfl) (ResOk.tmp rfl (ResOk.nil)) ?_
    exact ⟨by assumption, _, rfl, by assumption, by assumption⟩
  · have hC5 := hC4.trans gr5
    refine RD.rd rfl rfl gr5 (V.ldA a80 rfl (fun _ hS => hb.gr hS) (vs := [_, _, _, _, _, _, _, _, _, _, _, _, _, _, _, _, _, _]) rfl rfl) ?_
    refine RD.rd rfl rfl gr5 (V.ldA a80 rfl (fun _ hS => hb.gr hS) (vs := [_, _, _, _, _, _, _, _, _, _, _, _, _, _, _, _, _, _]) rfl rfl) ?_
    refine RD.lo rfl (L.al hC5 z80 fun b6 w6 hb6 le6 hC6 gr6 hz6 hB6 => ⟨gr5.trans (Ch.of_grow gr6), ?_⟩); have hS6 := gr5.trans (Ch.of_grow gr6); have l7_hB6 := hB6.lt
    refine RD.lo rfl (L.al hC6 z80 fun b7 w7 hb7 le7 hC7 gr7 hz7 hB7 => ⟨hS6.trans (Ch.of_grow gr7), ?_⟩); have hS7 := hS6.trans (Ch.of_grow gr7); have hB6a7 := hB6.gr gr7
    have hB7 := hB7
    refine RD.lo0 rfl (L.stN hC7 sz80 rfl rfl rfl rfl hB7 rfl le7 fun w8 hC8 ch8 hz8 hB7 => ⟨hS7.trans' ch8 (by rintro b hb rfl; omega), ?_⟩)
    have hB6a7 := hB6a7.ch ch8 (by omega)
    refine RD.lf0 rfl (by kernel_rfl) (L.stN hC8 sz80 rfl rfl rfl rfl hB6a7 rfl le6 fun w9 hC9 ch9 hz9 hB6a7 => ?_)
    have hB7 := hB7.ch ch9 (by omega)
    replace hb := (((((hb.gr gr5).gr gr6).gr gr7).ch ch8 (by omega)).ch ch9 (by omega))
    refine RD.nil ?_; refine RX.seq ?_; refine RX.region ?_; refine RU.rd (V.fld0 f80_9 rfl) ?_; refine RU.lo0 (L.stN hC9 sz3 rfl rfl rfl rfl hB7 rfl le7 fun w10 hC10 ch10 hz10 hB7 => ?_)
    have hB6a7 := hB6a7.ch ch10 (by omega); have hb := hb.ch ch10 (by omega); refine RU.rd (V.fld0 f80_8 rfl) ?_; refine RU.lo0 (L.stN hC10 sz3 rfl rfl rfl rfl hB7 rfl le7 fun w11 hC11 ch11 hz11 hB7 => ?_)
    have hB6a7 := hB6a7.ch ch11 (by omega); have hb := hb.ch ch11 (by omega); refine RU.nil ?_; refine RX.seq ?_; refine RX.region ?_; refine RU.rd (V.fld0 f80_9 rfl) ?_
    refine RU.lo0 (L.stN hC11 sz3 rfl rfl rfl rfl hB6a7 rfl le6 fun w12 hC12 ch12 hz12 hB6a7 => ?_); have hB7 := hB7.ch ch12 (by omega); have hb := hb.ch ch12 (by omega); refine RU.rd (V.fld0 f80_8 rfl) ?_
    refine RU.lo0 (L.stN hC12 sz3 rfl rfl rfl rfl hB6a7 rfl le6 fun w13 hC13 ch13 hz13 hB6a7 => ?_); have hB7 := hB7.ch ch13 (by omega); have hb := hb.ch ch13 (by omega); refine RU.nil ?_; refine RX.seq ?_
    refine RX.region ?_; refine RU.rd (V.ldA a80 rfl (cur hb) (vs := [_, _, _, _, _, _, _, _, _, _, _, _, _, _, _, _, _, _]) rfl rfl) ?_
    refine RU.rd (V.ldA a80 rfl (cur hB7) (vs := [_, _, _, _, _, _, _, _, _, _, _, _, _, _, _, _, _, _]) rfl rfl) ?_
    refine RU.rd (V.ldA a80 rfl (cur hB6a7) (vs := [_, _, _, _, _, _, _, _, _, _, _, _, _, _, _, _, _, _]) rfl rfl) ?_; have l14_hB6a7 := hB6a7.lt; have l14_hB7 := hB7.lt; have l14_hb := hb.lt
    refine RU.lo (L.bsl hC13 e67 z80 rfl rfl rfl rfl fun b14 w14 hb14 le14 hC14 gr14 hz14 hB14 => ?_); have hB6a7 := hB6a7.gr gr14; have hB7 := hB7.gr gr14; have hb := hb.gr gr14; refine RU.rd (V.as rfl) ?_; refine RU.nil ?_
    refine RX.rt Tryz.func20 (by rfl) (ResOk.tmp rfl (ResOk.nil)) ?_
    exact ⟨by assumption, _, rfl, by assumption, by assumption⟩
end Go.Proofs.YtmcfbinkofoagaaGreat
