/- A remark and a spend that is too great. -/
import Derived.Test.YtmcfbinkofoagaaGreatFA
namespace Go.Proofs.YtmcfbinkofoagaaGreat
open Go Go.RowKit Sx Go.Proofs

theorem does_remark {of cap n : Int} {D : Led} : (Cal.mk 1 0 n []).does of cap D = (D, [(5, of, n)], 0) := by simp [Cal.does]
theorem does_spend {of cap to n : Int} {D : Led} : (Cal.mk 2 to n []).does of cap D = spendC cap to n D := by simp [Cal.does]
theorem cap0 : (trAt theTracks 0).cap = 5 := rfl
theorem cap1 : (trAt theTracks 1).cap = 50 := rfl
theorem cap2 : (trAt theTracks 2).cap = 5000 := rfl
theorem c12 {w : World} : Calls Tryz.prog 12 #[] w (Ret fun v w' => v = .bool true ∧ Grow w w') := by
  refine calls_of_rx (args := []) (e := []) (n := 61) Tryz.func12 rfl rfl rfl (by kernel_rfl) rfl ?_
  have hC := Ch.refl Nil w
  have uq := True.intro
  refine RX.seq ?_; refine RX.region ?_; refine RU.rd (V.as rfl) ?_; refine RU.nil ?_; refine RX.seq ?_; refine RX.region ?_
  refine RU.lo (L.call fn9 rfl (c9 (fr := []) (w := w) (v := .slice none 0 0) .nil) ?_)
  rintro _ w1 ⟨q, rfl, gr1, hab, -, hP⟩
  have hC1 := gr1
  have hp := hP.hp
  have ho := startLed_ok []
  refine RU.rd (V.as rfl) ?_; refine RU.nil ?_; refine RX.seq ?_; refine RX.seq ?_; refine RX.region ?_; refine RU.rd (V.mv rfl) ?_; refine RU.rd (V.eqNil u22 rfl rfl) ?_; refine RU.nil ?_; refine RX.condF rfl ?_
  refine RX.skip ?_; refine RX.seq ?_
  refine RX.draw (Ch Nil w1) [3, 7, 11] [(0, true), (1, true), (2, true), (3, true), (4, true), (5, true), (6, true), (7, true), (8, true), (9, true), (10, true), (11, true), (12, true), (13, false), (14, true), (15, true), (16, true), (17, true), (18, true)] mixed (by kernel_rfl) fun w2 gr2 hz2 => ?_
  have hC2 := hC1.trans (Ch.of_grow gr2); have hpd2 := hp.gr gr2; refine RD.rz rfl (V.mv rfl) ?_; refine RD.rz rfl (V.nck rfl) ?_; refine RD.rz rfl (V.fld0 f38_0 rfl) ?_
  refine RD.rd rfl rfl gr2 (V.ld s31 rfl (fun _ hS => hp.gr hS) rfl) ?_; refine RD.rz rfl (V.mv rfl) ?_; refine RD.rz rfl (V.nck rfl) ?_; refine RD.rz rfl (V.fld0 f38_1 rfl) ?_
  refine RD.rd rfl rfl gr2 (V.ld s32 rfl (fun _ hS => hp.gr hS) rfl) ?_; refine RD.rz rfl (V.mv rfl) ?_; refine RD.rz rfl (V.nck rfl) ?_; refine RD.rz rfl (V.fld0 f38_2 rfl) ?_
  refine RD.rd rfl rfl gr2 (V.ld s33 rfl (fun _ hS => hp.gr hS) rfl) ?_; refine RD.rz rfl (V.bld bf26 z26 rfl rfl) ?_
  have hcl := c10 (of := 1) (now := 0) (hP.gr gr2) ho (CalR.nil (k := 1) (to := 0) (n := 7)) (by simp [Cal.plain]) (by simp [Cal.isB]) (by simp [Cal.sz, Cal.szL]) (by decide)
  rw [does_remark] at hcl
  refine RD.lf rfl (by kernel_rfl) (L.call fn10 rfl hcl ?_)
  rintro _ w3 ⟨s, rfl, hO3, ch3, hP3⟩
  have hC3 := hC2.trans' ch3 (by rintro b hb rfl; omega)
  have hp := hP3.hp
  obtain ⟨b3, n3, c3, sp3, rfl, le3, hn3, hB3, -⟩ := Own.opn hO3 (by simp [evsC_len])
  have hn3 : n3 = 1 := by rw [evsC_len] at hn3; simp at hn3; omega
  subst hn3
  have z2 := hC2.size
  refine RD.rz rfl (V.mv rfl) ?_; refine RD.rz rfl (V.ext rfl rfl) ?_; refine RD.rz rfl (V.ext rfl rfl) ?_; refine RD.rz rfl (V.as rfl) ?_; refine RD.rz rfl (V.as rfl) ?_; refine RD.nil ?_; refine RX.seq ?_
  refine RX.draw (Ch Nil w3) [3, 7, 11] [(0, true), (1, true), (2, true), (3, true), (4, true), (5, true), (6, true), (7, true), (8, true), (9, true), (10, true), (11, true), (12, true), (13, false), (14, true), (15, true), (16, true), (17, true), (18, true)] mixed (by kernel_rfl) fun w4 gr4 hz4 => ?_
  have hC4 := hC3.trans (Ch.of_grow gr4); have hpd4 := hp.gr gr4; have hB3d4 := hB3.gr gr4; refine RD.rz rfl (V.mv rfl) ?_; refine RD.rz rfl (V.nck rfl) ?_; refine RD.rz rfl (V.fld0 f38_0 rfl) ?_
  refine RD.rd rfl rfl gr4 (V.ld s31 rfl (fun _ hS => hp.gr hS) rfl) ?_; refine RD.rz rfl (V.mv rfl) ?_; refine RD.rz rfl (V.nck rfl) ?_; refine RD.rz rfl (V.fld0 f38_1 rfl) ?_
  refine RD.rd rfl rfl gr4 (V.ld s32 rfl (fun _ hS => hp.gr hS) rfl) ?_; refine RD.rz rfl (V.mv rfl) ?_; refine RD.rz rfl (V.nck rfl) ?_; refine RD.rz rfl (V.fld0 f38_2 rfl) ?_
  refine RD.rd rfl rfl gr4 (V.ld s33 rfl (fun _ hS => hp.gr hS) rfl) ?_; refine RD.rz rfl (V.bld bf26 z26 rfl rfl) ?_
  have hcl := c10 (of := 0) (now := 0) (hP3.gr gr4) ho (CalR.nil (k := 2) (to := 1) (n := 6)) (by simp [Cal.plain]) (by simp [Cal.isB]) (by simp [Cal.sz, Cal.szL]) (by decide)
  rw [does_spend, cap0, show spendC 5 1 6 (startLed []) = (startLed [], [], 10) from rfl] at hcl
  refine RD.lf rfl (by kernel_rfl) (L.call fn10 rfl hcl ?_)
  rintro _ w5 ⟨s, rfl, hO5, ch5, hP5⟩
  have hC5 := hC4.trans' ch5 (by rintro b hb rfl; omega)
  have hl3 := hP3.hl.lt q.g.ab (.inr (.inl rfl))
  have hB5 : Blk w5 b3 ([.int .i64 5, .int .i64 1, .int .i64 7] ++ sp3) 52 := (hB3.gr gr4).ch ch5 (by have := hP.hl.lt q.g.ab (.inr (.inl rfl)); have := gr2.size; omega)
  refine RD.rz rfl (V.mv rfl) ?_; refine RD.rz rfl (V.ext rfl rfl) ?_; refine RD.rz rfl (V.ext rfl rfl) ?_; refine RD.rz rfl (V.as rfl) ?_; refine RD.rz rfl (V.as rfl) ?_; refine RD.nil ?_; refine RX.seq ?_
  refine RX.region ?_; refine RU.rd (V.mv rfl) ?_; refine RU.rd (V.eql rfl rfl) ?_; refine RU.rd (V.mv rfl) ?_; refine RU.splitD (fun h1 => ?_) (fun _ => by contradiction); refine RU.rdG rfl rfl (V.mv rfl) ?_
  refine RU.rdG rfl rfl (V.len u27 rfl) ?_; refine RU.rdG rfl rfl (V.eql rfl rfl) ?_; refine RU.rd (V.pickT rfl rfl) ?_; refine RU.rd (V.mv rfl) ?_; refine RU.splitD (fun h2 => ?_) (fun _ => by omega)
  refine RU.rdG rfl rfl (V.mv rfl) ?_; refine RU.rdG rfl rfl (V.idx e27 rfl rfl (by omega)) ?_; refine RU.rdG rfl rfl (V.ldA a52 rfl (cur hB5) (vs := [_, _, _]) rfl rfl) ?_; refine RU.rdG rfl rfl (V.bld bf52 z52 rfl rfl) ?_
  refine RU.rdG rfl rfl (V.eqS q52 (by kernel_rfl) rfl rfl) ?_; refine RU.rd (V.pickT rfl rfl) ?_; refine RU.rd (V.mv rfl) ?_; refine RU.rdG rfl rfl (V.mv rfl) ?_; refine RU.rdG rfl rfl (V.eql rfl rfl) ?_
  refine RU.rd (V.pickT rfl rfl) ?_; refine RU.rd (V.as rfl) ?_; refine RU.nil ?_; refine RX.rt Tryz.func12 (by rfl) (ResOk.tmp rfl (ResOk.nil)) ?_
  exact ⟨rfl, hC5⟩
end Go.Proofs.YtmcfbinkofoagaaGreat
