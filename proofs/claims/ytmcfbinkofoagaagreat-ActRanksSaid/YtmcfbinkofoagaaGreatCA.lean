/- A track is read; a spend. -/
import Derived.Test.YtmcfbinkofoagaaGreatBA
namespace Go.Proofs.YtmcfbinkofoagaaGreat
open Go Go.RowKit Sx Go.Proofs

def zeroTrk : Trk := ⟨0, 0, 0, 0, 0, 0, ⟨0, 0, 0, 0, 0⟩, ⟨0, 0, 0, 0, 0⟩, 0, 0⟩
def trAt (ts : List Trk) (i : Int) : Trk := if 0 ≤ i then ts.getD i.toNat zeroTrk else zeroTrk
theorem trAt_in {ts : List Trk} {i : Int} (h0 : 0 ≤ i) (h1 : i.toNat < ts.length) : trAt ts i = ts[i.toNat] := by simp [trAt, h0, h1]
theorem trAt_out {ts : List Trk} {i : Int} (h : i < 0 ∨ (ts.length : Int) ≤ i) : trAt ts i = zeroTrk := by
  unfold trAt; split
  · have : ts.length ≤ i.toNat := by omega
    simp [this]
  · rfl
theorem c26 {w : World} {rb tb c : Nat} {ts : List Trk} {sp : List Value} {gv : Value} {i : Int} (hr : Blk w rb [.slice (some ⟨tb, 0, none⟩) ts.length c, gv] 90) (ht : Blk w tb (trsC ts ++ sp) 80) : Calls Tryz.prog 26 #[.pointer (some ⟨rb, 0, none⟩), .int .i64 i] w
    (Ret fun v w' => v = .tuple #[.agg (trC (trAt ts i)).toArray, .bool (decide (0 ≤ i ∧ i < ts.length))] ∧ Grow w w') := by
  have at1 := trsC_at ts sp
  have ln1 := trsC_len ts sp
  refine calls_of_rx (args := [_, _]) (e := [(0, _), (1, _)]) (n := 29) Tryz.func26 rfl rfl rfl (by kernel_rfl) rfl ?_
  have hC := Ch.refl Nil w
  refine RX.seq ?_; refine RX.region ?_; refine RU.lo (L.al hC z80 fun b1 w1 hb1 le1 hC1 gr1 hz1 hB1 => ?_); refine RU.rd (V.as rfl) ?_; refine RU.nil ?_; refine RX.seq ?_; refine RX.seq ?_; refine RX.region ?_
  refine RU.rd (V.mv rfl) ?_; refine RU.rd (V.eqNil u33 rfl rfl) ?_; refine RU.rd (V.mv rfl) ?_; refine RU.rdG rfl rfl (V.mv rfl) ?_; refine RU.rdG rfl rfl (V.lss rfl rfl) ?_; refine RU.rd (V.pickF rfl rfl) ?_
  refine RU.rd (V.mv rfl) ?_; refine RU.splitD (fun h1 => ?_) fun h1 => ?_
  · refine RU.sk rfl rfl rfl ?_; refine RU.sk rfl rfl rfl ?_; refine RU.sk rfl rfl rfl ?_; refine RU.sk rfl rfl rfl ?_; refine RU.sk rfl rfl rfl ?_; refine RU.sk rfl rfl rfl ?_; refine RU.sk rfl rfl rfl ?_
    refine RU.rd (V.pickT rfl rfl) ?_; refine RU.nil ?_; refine RX.condT rfl ?_; refine RX.seq ?_; refine RX.region ?_; refine RU.rd (V.bld bf80 z80 rfl rfl) ?_
    refine RU.lo0 (L.stN hC1 sz80 rfl rfl rfl rfl hB1 rfl le1 fun w2 hC2 ch2 hz2 hB1 => ?_); refine RU.rd (V.as rfl) ?_; refine RU.nil ?_
    refine RX.rt Tryz.func26 (by rfl) (ResOk.cellA rfl a80 hB1 (Nat.le_of_ble_eq_true rfl) (us := [_, _, _, _, _, _, _, _, _, _, _, _, _, _, _, _, _, _]) rfl (ResOk.tmp rfl (ResOk.nil))) ?_
    exact ⟨by rw [trAt_out (by omega), decide_eq_false (by omega)]; rfl, by assumption⟩
  · refine RU.rdG rfl rfl (V.mv rfl) ?_; refine RU.rdG rfl rfl (V.mv rfl) ?_; refine RU.rdG rfl rfl (V.nck rfl) ?_; refine RU.rdG rfl rfl (V.fld0 f90_0 rfl) ?_
    refine RU.rdG rfl rfl (V.ld s67 rfl (cur (hr.gr gr1)) rfl) ?_; refine RU.rdG rfl rfl (V.len u67 rfl) ?_; refine RU.rdG rfl rfl (V.geq rfl rfl) ?_; refine RU.rd (V.pickF rfl rfl) ?_; refine RU.nil ?_
    refine RX.condD rfl (fun h2 => ?_) fun h2 => ?_
    · refine RX.seq ?_; refine RX.region ?_; refine RU.rd (V.bld bf80 z80 rfl rfl) ?_; refine RU.lo0 (L.stN hC1 sz80 rfl rfl rfl rfl hB1 rfl le1 fun w2 hC2 ch2 hz2 hB1 => ?_); refine RU.rd (V.as rfl) ?_
      refine RU.nil ?_; refine RX.rt Tryz.func26 (by rfl) (ResOk.cellA rfl a80 hB1 (Nat.le_of_ble_eq_true rfl) (us := [_, _, _, _, _, _, _, _, _, _, _, _, _, _, _, _, _, _]) rfl (ResOk.tmp rfl (ResOk.nil))) ?_
      exact ⟨by rw [trAt_out (by omega), decide_eq_false (by omega)]; rfl, by assumption⟩
    · refine RX.skip ?_; refine RX.seq ?_; refine RX.region ?_; refine RU.rd (V.mv rfl) ?_; refine RU.rd (V.nck rfl) ?_; refine RU.rd (V.fld0 f90_0 rfl) ?_; refine RU.rd (V.ld s67 rfl (cur (hr.gr gr1)) rfl) ?_
      refine RU.rd (V.mv rfl) ?_; refine RU.rd (V.idx e67 rfl rfl (by omega)) ?_; refine RU.rd (V.ldA a80 rfl (cur (ht.gr gr1)) rfl (at1 _ (by omega))) ?_
      refine RU.lo0 (L.stN hC1 sz80 rfl rfl rfl rfl hB1 rfl le1 fun w2 hC2 ch2 hz2 hB1 => ?_); refine RU.rd (V.as rfl) ?_; refine RU.nil ?_
      refine RX.rt Tryz.func26 (by rfl) (ResOk.cellA rfl a80 hB1 (Nat.le_of_ble_eq_true rfl) (us := [_, _, _, _, _, _, _, _, _, _, _, _, _, _, _, _, _, _]) rfl (ResOk.tmp rfl (ResOk.nil))) ?_
      exact ⟨by rw [trAt_in (by omega) (by omega), decide_eq_true (by omega)]; rfl, by assumption⟩

/-- What happens. -/
def evC (e : Int × Int × Int) : List Value := [.int .i64 e.1, .int .i64 e.2.1, .int .i64 e.2.2]
theorem evC_length (e : Int × Int × Int) : (evC e).length = 3 := rfl
def evsC (l : List (Int × Int × Int)) : List Value := rws evC l
/-- A spend, of a track that may spend so much at once: what becomes of the ledger, what happened, and why not. -/
def spendC (cap to n : Int) (D : Led) : Led × List (Int × Int × Int) × Int :=
  if cap < n then (D, [], 10) else if D.trE 0 to n ≠ 0 then (D, [], D.trE 0 to n) else (D.tr 0 to n, [(3, to, n)], 0)
theorem Led.tr_no {D : Led} {f t n : Int} (h : D.trE f t n ≠ 0) : D.tr f t n = D := by
  unfold Led.tr
  rw [if_neg]
  rintro ⟨h1, h2⟩
  apply h
  unfold Led.trE
  rw [if_neg (by simpa using h1), h2]; simp
theorem c60 {w : World} {db rb : Nat} {vp : Value} {g : LG} {D : Led} {t : Trk} {of now k to n : Int} {sl : Value} (hd : Blk w db [.pointer (some ⟨g.lb, 0, none⟩), vp, .pointer (some ⟨rb, 0, none⟩), .int .i64 of, .int .i64 now] 86)
    (hne : db ≠ g.ab) (h : LedAt w g D) (ho : D.Ok) : Calls Tryz.prog 60 #[.pointer (some ⟨db, 0, none⟩), .agg (trC t).toArray, .agg #[.int .i64 k, .int .i64 to, .int .i64 n, sl]] w
    (Ret fun v w' => ∃ s, v = .tuple #[s, .int .i64 (spendC t.cap to n D).2.2] ∧ Own w.heap.size w' 3 52 s (evsC (spendC t.cap to n D).2.1) ∧ Ch (· = g.ab) w w' ∧ LedAt w' g (spendC t.cap to n D).1) := by
  refine calls_of_rx (args := [_, _, _]) (e := [(0, _), (1, _), (2, _)]) (n := 32) Tryz.func60 rfl rfl rfl (by kernel_rfl) rfl ?_
  have hC := Ch.refl (· = g.ab) w
  have uq := True.intro
  refine RX.seq ?_; refine RX.region ?_; refine RU.lo (L.bx hC rfl fun b1 w1 hb1 le1 hC1 gr1 hz1 hB1 => ?_); have l2_hB1 := hB1.lt; refine RU.lo (L.bx hC1 rfl fun b2 w2 hb2 le2 hC2 gr2 hz2 hB2 => ?_); have hB1 := hB1.gr gr2
  refine RU.rd (V.as rfl) ?_; refine RU.rd (V.as rfl) ?_; refine RU.nil ?_; refine RX.seq ?_; refine RX.seq ?_; refine RX.region ?_; refine RU.rd (V.fld0 f26_2 rfl) ?_; refine RU.rd (V.ld s3 rfl (cur hB2) rfl) ?_
  refine RU.rd (V.fld0 f80_8 rfl) ?_; refine RU.rd (V.ld s3 rfl (cur hB1) rfl) ?_; refine RU.rd (V.gtr rfl rfl) ?_; refine RU.nil ?_; refine RX.condD rfl (fun h1 => ?_) fun h1 => ?_
  · refine RX.seq ?_; refine RX.region ?_; refine RU.rd (V.as rfl) ?_; refine RU.rd (V.as rfl) ?_; refine RU.nil ?_; refine RX.rt Tryz.func60 (by rfl) (ResOk.tmp rfl (ResOk.tmp rfl (ResOk.nil))) ?_
    have e1 : spendC t.cap to n D = (D, [], 10) := by unfold spendC; rw [if_pos (by assumption)]
    rw [e1]
    exact ⟨_, rfl, .nil, hC2, h.gr (gr1.trans gr2)⟩
  · refine RX.skip ?_; refine RX.seq ?_; refine RX.seq ?_
    refine RX.draw (Ch Nil w2) [3, 5, 7] [(0, true), (1, true), (2, true), (3, true), (4, true), (5, true), (6, true), (7, true), (8, false), (9, true)] mixed (by kernel_rfl) fun w3 gr3 hz3 => ?_
    have hC3 := hC2.trans (Ch.of_grow gr3); have hB2d3 := hB2.gr gr3; have hB1d3 := hB1.gr gr3; refine RD.rz rfl (V.mv rfl) ?_; refine RD.rz rfl (V.nck rfl) ?_; refine RD.rz rfl (V.fld0 f86_0 rfl) ?_
    refine RD.rd rfl rfl gr3 (V.ld s31 rfl (fun _ hS => (hd.ch hC2 (by first | assumption | omega | (dsimp only; omega) | (simp; omega))).gr hS) rfl) ?_; refine RD.rz rfl (V.fld0 f26_1 rfl) ?_
    refine RD.rd rfl rfl gr3 (V.ld s3 rfl (fun _ hS => hB2.gr hS) rfl) ?_; refine RD.rz rfl (V.fld0 f26_2 rfl) ?_; refine RD.rd rfl rfl gr3 (V.ld s3 rfl (fun _ hS => hB2.gr hS) rfl) ?_
    have hL3 := h.gr ((gr1.trans gr2).trans gr3)
    have hab := h.lt g.ab (.inr (.inl rfl))
    refine RD.lf rfl (by kernel_rfl) (L.call fn86 rfl (c86 hL3 ho) ?_)
    rintro _ w4 ⟨rfl, ch4, hL4⟩
    have hC4 := hC3.trans ch4
    have hB4 := hB2d3.ch ch4 (by omega)
    clear hB1 hB2 hB1d3 hB2d3
    refine RD.rz rfl (V.as rfl) ?_; refine RD.nil ?_; refine RX.seq ?_; refine RX.region ?_; refine RU.rd (V.mv rfl) ?_; refine RU.rd (V.neq rfl rfl) ?_; refine RU.nil ?_; refine RX.condD rfl (fun h2 => ?_) fun h2 => ?_
    · have e1 : spendC t.cap to n D = (D, [], D.trE 0 to n) := by unfold spendC; rw [if_neg (by assumption), if_pos (by assumption)]
      rw [e1]
      refine RX.seq ?_; refine RX.region ?_; refine RU.rd (V.mv rfl) ?_; refine RU.rd (V.as rfl) ?_; refine RU.rd (V.as rfl) ?_; refine RU.nil ?_; refine RX.rt Tryz.func60 (by rfl) (ResOk.tmp rfl (ResOk.tmp rfl (ResOk.nil))) ?_
      rw [Led.tr_no (by assumption)] at hL4
      exact ⟨_, rfl, .nil, hC4, hL4⟩
    · have e1 : spendC t.cap to n D = (D.tr 0 to n, [(3, to, n)], 0) := by unfold spendC; rw [if_neg (by assumption), if_neg (by assumption)]
      rw [e1]
      refine RX.skip ?_; refine RX.seq ?_; refine RX.region ?_; refine RU.rd (V.fld0 f26_1 rfl) ?_; refine RU.rd (V.ld s3 rfl (cur hB4) rfl) ?_; refine RU.rd (V.fld0 f26_2 rfl) ?_; refine RU.rd (V.ld s3 rfl (cur hB4) rfl) ?_
      refine RU.rd (V.bld bf52 z52 rfl rfl) ?_; have l5_hB4 := hB4.lt; refine RU.lo (L.bsl hC4 e27 z52 rfl rfl rfl rfl fun b5 w5 hb5 le5 hC5 gr5 hz5 hB5 => ?_); have hB4 := hB4.gr gr5; refine RU.rd (V.as rfl) ?_
      refine RU.rd (V.as rfl) ?_; refine RU.nil ?_; refine RX.rt Tryz.func60 (by rfl) (ResOk.tmp rfl (ResOk.tmp rfl (ResOk.nil))) ?_
      refine ⟨_, rfl, .some (by assumption) (by assumption) rfl rfl rfl (by decide), by assumption, hL4.gr (by assumption)⟩
end Go.Proofs.YtmcfbinkofoagaaGreat
