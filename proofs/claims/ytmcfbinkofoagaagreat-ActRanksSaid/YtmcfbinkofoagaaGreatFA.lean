/- Acts of the law's things, without referenda. -/
import Derived.Test.YtmcfbinkofoagaaGreatEA
namespace Go.Proofs.YtmcfbinkofoagaaGreat
open Go Go.RowKit Sx Go.Proofs

theorem CalR.gr {B : Nat → Prop} {w w1 : World} {c : Cal} {cs : List Value} (h : CalR B w c cs) (hc : Grow w w1) : CalR B w1 c cs := h.ch hc (fun _ _ => id)
theorem c27 {c : Cal} {B : Nat → Prop} {w : World} {cs : List Value} (h : CalR B w c cs) : Calls Tryz.prog 27 #[.agg cs.toArray] w (Ret fun v w' => v = .bool (c.isB 0) ∧ Grow w w') := by
  obtain ⟨k4, to4, n4, p4, m4, c4, rfl⟩ := h.four
  refine calls_of_rx (args := [_]) (e := [(0, _)]) (n := 5) Tryz.func27 rfl rfl rfl (by kernel_rfl) rfl ?_
  have hC := Ch.refl Nil w
  have uq := True.intro
  refine RX.seq ?_; refine RX.region ?_; refine RU.lo (L.bx hC rfl fun b1 w1 hb1 le1 hC1 gr1 hz1 hB1 => ?_); refine RU.rd (V.as rfl) ?_; refine RU.nil ?_; refine RX.seq ?_; refine RX.region ?_
  refine RU.rd (V.ldA a26 rfl (cur hB1) (vs := [_, _, _, _]) rfl rfl) ?_
  refine RU.lo (L.call fn59 rfl (isOk c B _ _ _ (h.ch hC1 (fun _ _ => id)) (by omega) (by omega)) ?_)
  rintro _ w2 ⟨rfl, gr2⟩
  have hC2 := hC1.trans gr2
  refine RU.rd (V.as rfl) ?_; refine RU.nil ?_; refine RX.rt Tryz.func27 (by rfl) (ResOk.tmp rfl (ResOk.nil)) ?_
  exact ⟨rfl, hC2⟩

/-- A call is done. -/
theorem c10 {q : PG} {c : Cal} {w : World} {D : Led} {cs : List Value} {of now : Int} (h : P0 w q D) (ho : D.Ok) (hc : CalR (· ≠ q.g.ab) w c cs) (hp : c.plain) (hi : c.isB 0 = true) (hz : c.sz ≤ 1000000) (hof : 0 ≤ of ∧ of < 3) :
    Calls Tryz.prog 10 #[.pointer (some ⟨q.g.lb, 0, none⟩), .pointer (some ⟨q.vb, 0, none⟩), .pointer (some ⟨q.rb, 0, none⟩), .agg cs.toArray, .int .i64 of, .int .i64 now] w
    (Ret fun v w' => ∃ s, v = .tuple #[s, .int .i64 (c.does of (trAt theTracks of).cap D).2.2] ∧ Own w.heap.size w' 3 52 s (evsC (c.does of (trAt theTracks of).cap D).2.1) ∧ Ch (· = q.g.ab) w w' ∧ P0 w' q (c.does of (trAt theTracks of).cap D).1) := by
  obtain ⟨k4, to4, n4, p4, m4, c4, rfl⟩ := hc.four
  have hab := h.hl.lt q.g.ab (.inr (.inl rfl))
  refine calls_of_rx (args := [_, _, _, _, _, _]) (e := [(0, _), (1, _), (2, _), (3, _), (4, _), (5, _)]) (n := 48) Tryz.func10 rfl rfl rfl (by kernel_rfl) rfl ?_
  have hC := Ch.refl Nil w
  have uq := True.intro
  refine RX.seq ?_; refine RX.region ?_; refine RU.lo (L.bx hC rfl fun b1 w1 hb1 le1 hC1 gr1 hz1 hB1 => ?_); refine RU.rd (V.as rfl) ?_; refine RU.rd (V.as rfl) ?_; refine RU.nil ?_; refine RX.seq ?_; refine RX.seq ?_
  refine RX.region ?_; refine RU.rd (V.mv rfl) ?_; refine RU.rd (V.mv rfl) ?_
  have h1 := h.gr gr1
  refine RU.lo (L.call fn26 rfl (c26 (ts := theTracks) h1.hr h1.ht) ?_)
  rintro _ w2 ⟨rfl, gr2⟩
  have hC2 := hC1.trans gr2
  have e1 : decide (0 ≤ of ∧ of < (theTracks.length : Int)) = true := decide_eq_true (by have : theTracks.length = 3 := rfl; omega)
  rw [e1]
  replace hB1 := hB1.gr gr2
  refine RU.rd (V.mv rfl) ?_; refine RU.rd (V.ext rfl rfl) ?_; refine RU.rd (V.ext rfl rfl) ?_; have l3_hB1 := hB1.lt; refine RU.lo (L.al hC2 z80 fun b3 w3 hb3 le3 hC3 gr3 hz3 hB3 => ?_); have hB1 := hB1.gr gr3
  refine RU.lo0 (L.stN hC3 sz80 rfl rfl rfl rfl hB3 rfl le3 fun w4 hC4 ch4 hz4 hB3 => ?_); have hB1 := hB1.ch ch4 (by omega); refine RU.rd (V.as rfl) ?_; refine RU.nil ?_; refine RX.seq ?_; refine RX.region ?_
  refine RU.rd (V.mv rfl) ?_; refine RU.rd (V.not rfl) ?_; refine RU.rd (V.mv rfl) ?_; refine RU.rdG rfl rfl (V.mv rfl) ?_; refine RU.rdG rfl rfl (V.eqNil u31 rfl rfl) ?_; refine RU.rd (V.pickF rfl rfl) ?_
  refine RU.rd (V.mv rfl) ?_; refine RU.rdG rfl rfl (V.mv rfl) ?_; refine RU.rdG rfl rfl (V.eqNil u32 rfl rfl) ?_; refine RU.rd (V.pickF rfl rfl) ?_; refine RU.rd (V.mv rfl) ?_
  refine RU.rdG rfl rfl (V.ldA a26 rfl (cur hB1) (vs := [_, _, _, _]) rfl rfl) ?_; refine RU.loG rfl rfl (L.call fn27 rfl (c27 (hc.gr hC4)) ?_); rintro _ w5 ⟨rfl, gr5⟩; have hC5 := hC4.trans (Ch.of_grow gr5)
  have hB3 := hB3.gr gr5; have hB1 := hB1.gr gr5; refine RU.rdG rfl rfl (V.not rfl) ?_; refine RU.rd (V.pickF rfl rfl) ?_; refine RU.nil ?_; refine RX.cond rfl (fun _ => by simp_all) fun h2 => ?_; refine RX.skip ?_
  refine RX.seq ?_; refine RX.region ?_; refine RU.rd (V.mv rfl) ?_; refine RU.rd (V.mv rfl) ?_; refine RU.rd (V.mv rfl) ?_; refine RU.rd (V.mv rfl) ?_; refine RU.rd (V.mv rfl) ?_; refine RU.rd (V.bld bf86 z86 rfl rfl) ?_
  have l6_hB3 := hB3.lt; have l6_hB1 := hB1.lt; refine RU.lo (L.bx hC5 rfl fun b6 w6 hb6 le6 hC6 gr6 hz6 hB6 => ?_); have hB3 := hB3.gr gr6; have hB1 := hB1.gr gr6
  refine RU.rd (V.ldA a26 rfl (cur hB1) (vs := [_, _, _, _]) rfl rfl) ?_
  have h6 := h.gr hC6
  obtain ⟨dq, e1, e2, e3, hd6⟩ : ∃ dq : DoG, dq.db = b6 ∧ dq.g = q.g ∧ dq.of = of ∧ DoAt w6 dq theTracks D :=
    ⟨⟨b6, q.g, q.rb, q.tb, q.c, q.sp, .pointer (some ⟨q.gb, 0, none⟩), .pointer (some ⟨q.vb, 0, none⟩), of, now⟩, rfl, rfl, rfl,
      ⟨hB6, h6.hl, h6.hr, h6.ht, by show b6 ≠ q.g.ab; omega, h6.n2, h6.n3⟩⟩
  have hcl := doesOk dq theTracks c w6 D _ hd6 ho (by rw [e2]; exact hc.gr hC6) hp hz
  rw [e1, e2, e3] at hcl
  refine RU.lo (L.call fn28 rfl hcl ?_)
  rintro _ w7 ⟨s, rfl, hO7, ch7, hd7⟩
  have hC7 : Ch (· = q.g.ab) w w7 := (Ch.of_grow hC6).trans ch7
  have hL7 := hd7.hl
  rw [e2] at hL7
  clear hC6
  refine RU.rd (V.ext rfl rfl) ?_; refine RU.rd (V.ext rfl rfl) ?_; refine RU.rd (V.as rfl) ?_; refine RU.rd (V.as rfl) ?_; refine RU.nil ?_; refine RX.rt Tryz.func10 (by rfl) (ResOk.tmp rfl (ResOk.tmp rfl (ResOk.nil))) ?_
  exact ⟨s, rfl, Own.base hO7 (by omega), hC7, h6.upd ch7 hL7⟩
end Go.Proofs.YtmcfbinkofoagaaGreat
