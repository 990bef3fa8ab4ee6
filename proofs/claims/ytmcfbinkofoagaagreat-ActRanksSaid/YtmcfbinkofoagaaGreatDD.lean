/- Acts, of calls of every kind and by any track. -/
import Derived.Test.YtmcfbinkofoagaaGreatDC
namespace Go.Proofs.YtmcfbinkofoagaaGreat
open Go Go.RowKit Sx Go.Proofs

/-- What an act does. -/
def doS (of now : Int) (c : Cal) (s : St) : Did2 := if (0 ≤ of ∧ of < 3) ∧ c.isB 0 = true then c.run of now (trAt theTracks of).cap (trAt theTracks of).rank s else (s, [], 1)
theorem doS_ok {of now : Int} {c : Cal} {s : St} (h : StOk s) : StOk (doS of now c s).1 ∧ (doS of now c s).1.2.length = s.2.length ∧ (doS of now c s).2.1.length ≤ 2 * c.sz := by
  unfold doS; split
  · exact Cal.run_ok _ _ _ _ c s h
  · exact ⟨h, rfl, by simp⟩
set_option maxHeartbeats 1000000 in
theorem c10g {q : QG} {pk : Nat → Nat} {gv : Value} {s : St} {c : Cal} {w : World} {cs : List Value} {of now : Int} (h : QAt w q pk gv s.1 s.2) (ho : StOk s) (hc : CalR (fun b => ¬ q.chg pk s.2.length b) w c cs) (hz : c.sz ≤ 1000000) :
    Calls Tryz.prog 10 #[.pointer (some ⟨q.g.lb, 0, none⟩), .pointer (some ⟨q.vb, 0, none⟩), .pointer (some ⟨q.rb, 0, none⟩), .agg cs.toArray, .int .i64 of, .int .i64 now] w
    (Ret fun v w' => ∃ sl gv', v = .tuple #[sl, .int .i64 (doS of now c s).2.2] ∧ Own w.heap.size w' 3 52 sl (evsC (doS of now c s).2.1) ∧ Ch (q.chg pk s.2.length) w w' ∧ QAt w' q pk gv' (doS of now c s).1.1 (doS of now c s).1.2 ∧ ∀ b, inSl gv' b → inSl gv b ∨ w.heap.size ≤ b) := by
  have lchg : ∀ x, q.chg pk s.2.length x → x < w.heap.size := fun x hx => h.lt x (QG.chg_foot hx)
  obtain ⟨k4, to4, n4, p4, m4, c4, rfl⟩ := hc.four
  refine calls_of_rx (args := [_, _, _, _, _, _]) (e := [(0, _), (1, _), (2, _), (3, _), (4, _), (5, _)]) (n := 48) Tryz.func10 rfl rfl rfl (by kernel_rfl) rfl ?_
  have hC := Ch.refl Nil w
  have uq := True.intro
  refine RX.seq ?_; refine RX.region ?_; refine RU.lo (L.bx hC rfl fun b1 w1 hb1 le1 hC1 gr1 hz1 hB1 => ?_); refine RU.rd (V.as rfl) ?_; refine RU.rd (V.as rfl) ?_; refine RU.nil ?_; refine RX.seq ?_; refine RX.seq ?_
  refine RX.region ?_; refine RU.rd (V.mv rfl) ?_; refine RU.rd (V.mv rfl) ?_
  have h1 := h.gr gr1
  refine RU.lo (L.call fn26 rfl (c26 (ts := theTracks) (i := of) h1.hr h1.ht) ?_)
  rintro _ w2 ⟨rfl, gr2⟩
  have hC2 := hC1.trans gr2
  replace hB1 := hB1.gr gr2
  have hlen : ((theTracks.length : Nat) : Int) = 3 := rfl
  by_cases hof : 0 ≤ of ∧ of < 3
  · have e1 : decide (0 ≤ of ∧ of < (theTracks.length : Int)) = true := decide_eq_true (by rw [hlen]; exact hof)
    rw [e1]
    refine RU.rd (V.mv rfl) ?_; refine RU.rd (V.ext rfl rfl) ?_; refine RU.rd (V.ext rfl rfl) ?_; have l3_hB1 := hB1.lt; refine RU.lo (L.al hC2 z80 fun b3 w3 hb3 le3 hC3 gr3 hz3 hB3 => ?_); have hB1 := hB1.gr gr3
    refine RU.lo0 (L.stN hC3 sz80 rfl rfl rfl rfl hB3 rfl le3 fun w4 hC4 ch4 hz4 hB3 => ?_); have hB1 := hB1.ch ch4 (by omega); refine RU.rd (V.as rfl) ?_; refine RU.nil ?_; refine RX.seq ?_; refine RX.region ?_
    refine RU.rd (V.mv rfl) ?_; refine RU.rd (V.not rfl) ?_; refine RU.rd (V.mv rfl) ?_; refine RU.rdG rfl rfl (V.mv rfl) ?_; refine RU.rdG rfl rfl (V.eqNil u31 rfl rfl) ?_; refine RU.rd (V.pickF rfl rfl) ?_
    refine RU.rd (V.mv rfl) ?_; refine RU.rdG rfl rfl (V.mv rfl) ?_; refine RU.rdG rfl rfl (V.eqNil u32 rfl rfl) ?_; refine RU.rd (V.pickF rfl rfl) ?_; refine RU.rd (V.mv rfl) ?_
    refine RU.rdG rfl rfl (V.ldA a26 rfl (cur hB1) (vs := [_, _, _, _]) rfl rfl) ?_; refine RU.loG rfl rfl (L.call fn27 rfl (c27 (hc.gr hC4)) ?_); rintro _ w5 ⟨rfl, gr5⟩; have hC5 := hC4.trans (Ch.of_grow gr5)
    have hB3 := hB3.gr gr5; have hB1 := hB1.gr gr5; refine RU.rdG rfl rfl (V.not rfl) ?_; refine RU.rd (V.pickF rfl rfl) ?_; refine RU.nil ?_; refine RX.cond rfl (fun h2 => ?_) fun h2 => ?_
    · have hb : c.isB 0 = false := by simpa using ‹(!Cal.isB 0 c) = true›
      have e2 : doS of now c s = (s, [], 1) := by unfold doS; rw [if_neg (by simp [hb])]
      rw [e2]
      refine RX.seq ?_; refine RX.region ?_; refine RU.rd (V.as rfl) ?_; refine RU.rd (V.as rfl) ?_; refine RU.nil ?_; refine RX.rt Tryz.func10 (by rfl) (ResOk.tmp rfl (ResOk.tmp rfl (ResOk.nil))) ?_
      exact ⟨_, gv, rfl, .nil, .of_grow (by assumption), h.gr (by assumption), fun c hc => .inl hc⟩
    · have hb : c.isB 0 = true := by simpa using ‹(!Cal.isB 0 c) = false›
      have e2 : doS of now c s = c.run of now (trAt theTracks of).cap (trAt theTracks of).rank s := by unfold doS; rw [if_pos ⟨hof, hb⟩]
      rw [e2]
      refine RX.skip ?_; refine RX.seq ?_; refine RX.region ?_; refine RU.rd (V.mv rfl) ?_; refine RU.rd (V.mv rfl) ?_; refine RU.rd (V.mv rfl) ?_; refine RU.rd (V.mv rfl) ?_; refine RU.rd (V.mv rfl) ?_
      refine RU.rd (V.bld bf86 z86 rfl rfl) ?_; have l6_hB3 := hB3.lt; have l6_hB1 := hB1.lt; refine RU.lo (L.bx hC5 rfl fun b6 w6 hb6 le6 hC6 gr6 hz6 hB6 => ?_); have hB3 := hB3.gr gr6; have hB1 := hB1.gr gr6
      refine RU.rd (V.ldA a26 rfl (cur hB1) (vs := [_, _, _, _]) rfl rfl) ?_
      have h6 := h.gr hC6
      have hcl := runOk b6 of now q pk s.2.length c w6 gv s _ ⟨hB6, h6, fun hx => by have := lchg _ hx; omega⟩ ho rfl (hc.gr hC6) (Cal.good_of c 0 hb) hz
      refine RU.lo (L.call fn28 rfl hcl ?_)
      rintro _ w7 ⟨sl, gv7, rfl, hO7, ch7, hQ7, hg7⟩
      have hC7 : Ch (q.chg pk s.2.length) w w7 := (Ch.of_grow hC6).trans ch7
      have z6 := hC6.size
      clear hC6
      refine RU.rd (V.ext rfl rfl) ?_; refine RU.rd (V.ext rfl rfl) ?_; refine RU.rd (V.as rfl) ?_; refine RU.rd (V.as rfl) ?_; refine RU.nil ?_; refine RX.rt Tryz.func10 (by rfl) (ResOk.tmp rfl (ResOk.tmp rfl (ResOk.nil))) ?_
      exact ⟨sl, gv7, rfl, Own.base hO7 z6, hC7, hQ7, fun c hc => (hg7 c hc).imp id fun h => by omega⟩
  · have e1 : decide (0 ≤ of ∧ of < (theTracks.length : Int)) = false := decide_eq_false (by rw [hlen]; exact hof)
    rw [e1]
    have e2 : doS of now c s = (s, [], 1) := by unfold doS; rw [if_neg (fun h => hof h.1)]
    rw [e2]
    refine RU.rd (V.mv rfl) ?_; refine RU.rd (V.ext rfl rfl) ?_; refine RU.rd (V.ext rfl rfl) ?_; have l3_hB1 := hB1.lt; refine RU.lo (L.al hC2 z80 fun b3 w3 hb3 le3 hC3 gr3 hz3 hB3 => ?_); have hB1 := hB1.gr gr3
    refine RU.lo0 (L.stN hC3 sz80 rfl rfl rfl rfl hB3 rfl le3 fun w4 hC4 ch4 hz4 hB3 => ?_); have hB1 := hB1.ch ch4 (by omega); refine RU.rd (V.as rfl) ?_; refine RU.nil ?_; refine RX.seq ?_; refine RX.region ?_
    refine RU.rd (V.mv rfl) ?_; refine RU.rd (V.not rfl) ?_; refine RU.rd (V.mv rfl) ?_; refine RU.sk rfl rfl rfl ?_; refine RU.sk rfl rfl rfl ?_; refine RU.rd (V.pickT rfl rfl) ?_; refine RU.rd (V.mv rfl) ?_
    refine RU.sk rfl rfl rfl ?_; refine RU.sk rfl rfl rfl ?_; refine RU.rd (V.pickT rfl rfl) ?_; refine RU.rd (V.mv rfl) ?_; refine RU.sk rfl rfl rfl ?_; refine RU.sk rfl rfl rfl ?_; refine RU.sk rfl rfl rfl ?_
    refine RU.rd (V.pickT rfl rfl) ?_; refine RU.nil ?_; refine RX.condT rfl ?_; refine RX.seq ?_; refine RX.region ?_; refine RU.rd (V.as rfl) ?_; refine RU.rd (V.as rfl) ?_; refine RU.nil ?_
    refine RX.rt Tryz.func10 (by rfl) (ResOk.tmp rfl (ResOk.tmp rfl (ResOk.nil))) ?_
    exact ⟨_, gv, rfl, .nil, .of_grow (by assumption), h.gr (by assumption), fun c hc => .inl hc⟩
end Go.Proofs.YtmcfbinkofoagaaGreat
