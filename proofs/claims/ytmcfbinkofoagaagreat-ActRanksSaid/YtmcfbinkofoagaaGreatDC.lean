/- Calls of every kind: the walk. -/
import Derived.Test.YtmcfbinkofoagaaGreatDB
namespace Go.Proofs.YtmcfbinkofoagaaGreat
open Go Go.RowKit Sx Go.Proofs

theorem runOk (db : Nat) (of now : Int) (q : QG) (pk : Nat → Nat) (m : Nat) : ∀ c : Cal, RunOk db of now q pk m c
  | .mk k to n l => by
    intro w gv s cs h ho hm hcal hgd hz
    obtain ⟨p4, c4, rfl, hkids⟩ := hcal.inv
    have hd := h.hd
    have hr := h.hq.hr
    have ht := h.hq.ht
    have n1 := h.nd
    have ⟨n2, n3, n4⟩ := h.hq.nchg
    rw [hm] at n1 n2 n3 n4
    have lchg : ∀ x, q.chg pk m x → x < w.heap.size := fun x hx => h.hq.lt x (by rw [hm]; exact QG.chg_foot hx)
    generalize hcap : (trAt theTracks of).cap = cap
    generalize hrank : (trAt theTracks of).rank = rank
    refine calls_of_rx (args := [_, _]) (e := [(0, _), (1, _)]) (n := 94) Tryz.func28 rfl rfl rfl (by kernel_rfl) rfl ?_
    have hC := Ch.refl (q.chg pk m) w
    have uq := True.intro
    have nodraw := True.intro
    refine RX.seq ?_; refine RX.region ?_; refine RU.lo (L.bx hC rfl fun b1 w1 hb1 le1 hC1 gr1 hz1 hB1 => ?_); refine RU.rd (V.as rfl) ?_; refine RU.rd (V.as rfl) ?_; refine RU.nil ?_; refine RX.seq ?_
    clear nodraw
    refine RX.cut (fun e w' => ∃ b2, e = [(0, .pointer (some ⟨db, 0, none⟩)), (3, .pointer (some ⟨b1, 0, none⟩)), (4, .slice none 0 0), (5, .int .i64 0), (6, .pointer (some ⟨b2, 0, none⟩))] ∧ Grow w w' ∧ w.heap.size ≤ b1 ∧ w.heap.size ≤ b2 ∧
      Blk w' b1 [.int .i64 k, .int .i64 to, .int .i64 n, .slice p4 l.length c4] 26 ∧ Blk w' b2 (trC (trAt theTracks of)) 80) ?_ fun rest => ?_
    · rintro e w2 ⟨b2, rfl, gr2, nb1, nb2, hB1, hB2⟩
      have hC2 : Ch (q.chg pk m) w w2 := .of_grow gr2
      have h2 := h.gr gr2
      have hd2 := h2.hd
      have z2 := gr2.size
      clear hd hr ht hC hC1
      refine RX.seq ?_; refine RX.seq ?_; refine RX.region ?_; refine RU.rd (V.fld0 f26_0 rfl) ?_; refine RU.rd (V.ld s3 rfl (cur hB1) rfl) ?_; refine RU.nil ?_; refine RX.block ?_; refine RX.seq ?_; refine RX.region ?_
      refine RU.rd (V.eql rfl rfl) ?_; refine RU.rd (V.as rfl) ?_; refine RU.nil ?_; refine RX.condD rfl (fun h1 => ?_) fun h1 => ?_
      · have hk1 : k = 1 := by assumption
        subst hk1
        have e1 : (Cal.mk 1 to n l).run of now cap rank s = (s, [(5, of, n)], 0) := by simp [Cal.run]
        rw [e1]
        refine RX.seq ?_; refine RX.draw (Ch Nil w2) [3, 5] [(0, true), (1, true), (2, true), (3, true), (4, true), (5, true), (6, true), (7, false), (8, true), (9, true)] mixed (by kernel_rfl) fun w3 gr3 hz3 => ?_
        have hC3 := hC2.trans (Ch.of_grow gr3); have hB2d3 := hB2.gr gr3; have hd2d3 := hd2.gr gr3; have hB1d3 := hB1.gr gr3; refine RD.rz rfl (V.mv rfl) ?_; refine RD.rz rfl (V.nck rfl) ?_; refine RD.rz rfl (V.fld0 f86_3 rfl) ?_
        refine RD.rd rfl rfl gr3 (V.ld s3 rfl (fun _ hS => hd2.gr hS) rfl) ?_; refine RD.rz rfl (V.fld0 f26_2 rfl) ?_; refine RD.rd rfl rfl gr3 (V.ld s3 rfl (fun _ hS => hB1.gr hS) rfl) ?_
        refine RD.rz rfl (V.bld bf52 z52 rfl rfl) ?_; have l4_hB2d3 := hB2d3.lt; have l4_hd2d3 := hd2d3.lt; have l4_hB1d3 := hB1d3.lt
        refine RD.lf rfl (by kernel_rfl) (L.bsl hC3 e27 z52 rfl rfl rfl rfl fun b4 w4 hb4 le4 hC4 gr4 hz4 hB4 => ?_); have hS4 := gr3.trans (Ch.of_grow gr4); have hB2d3a4 := hB2d3.gr gr4; have hd2d3a4 := hd2d3.gr gr4
        have hB1d3a4 := hB1d3.gr gr4; refine RD.rz rfl (V.as rfl) ?_; refine RD.rz rfl (V.as rfl) ?_; refine RD.nil ?_; refine RX.rt Tryz.func28 (by rfl) (ResOk.tmp rfl (ResOk.tmp rfl (ResOk.nil))) ?_
        exact ⟨_, gv, rfl, .some (by assumption) (by assumption) rfl rfl rfl (by decide), by assumption, h2.hq.gr (by assumption), fun c hc => .inl hc⟩
      · refine RX.seq ?_; refine RX.region ?_; refine RU.rd (V.eql rfl rfl) ?_; refine RU.rd (V.as rfl) ?_; refine RU.nil ?_; refine RX.condD rfl (fun h3 => ?_) fun h3 => ?_
        · have hk1 : k = 2 := by assumption
          subst hk1
          have e1 : (Cal.mk 2 to n l).run of now cap rank s = spdS cap to n s := by simp [Cal.run]
          rw [e1]
          refine RX.seq ?_; refine RX.region ?_; refine RU.rd (V.mv rfl) ?_; refine RU.rd (V.ldA a80 rfl (cur hB2) (vs := [_, _, _, _, _, _, _, _, _, _, _, _, _, _, _, _, _, _]) rfl rfl) ?_
          refine RU.rd (V.ldA a26 rfl (cur hB1) (vs := [_, _, _, _]) rfl rfl) ?_
          refine RU.lo (L.call fn60 rfl (c60 (k := 2) (sl := .slice p4 l.length c4) h2.hd (by rintro rfl; exact n1 (.inl rfl)) h2.hq.hl ho.ho) ?_)
          rintro _ w3 ⟨sl, rfl, hO3, ch3, hL3⟩
          have hC3 : Ch (q.chg pk m) w w3 := hC2.trans' ch3 (fun _ _ h => .inl h)
          rw [hcap] at hO3 hL3 ⊢
          have hs := spdS_ok ho cap to n
          refine RU.rd (V.ext rfl rfl) ?_; refine RU.rd (V.ext rfl rfl) ?_; refine RU.rd (V.as rfl) ?_; refine RU.rd (V.as rfl) ?_; refine RU.nil ?_; refine RX.rt Tryz.func28 (by rfl) (ResOk.tmp rfl (ResOk.tmp rfl (ResOk.nil))) ?_
          refine ⟨sl, gv, rfl, Own.base hO3 gr2.size, hC3, h2.hq.led ch3 (fun b _ ng hs => ng (.inr (.inl hs))) hL3 hs.1.ho hs.1.hk, fun c hc => .inl hc⟩
        · refine RX.seq ?_; refine RX.region ?_; refine RU.rd (V.eql rfl rfl) ?_; refine RU.rd (V.as rfl) ?_; refine RU.nil ?_; refine RX.condD rfl (fun h4 => ?_) fun h4 => ?_
          · have hk1 : k = 5 := by assumption
            subst hk1
            have hpl' : 0 < l.length ∧ Cal.goodL l := by unfold Cal.good at hgd; exact hgd rfl
            have e1 : (Cal.mk 5 to n l).run of now cap rank s = Cal.runL of now cap rank l s := by simp [Cal.run]
            rw [e1]
            obtain ⟨b, off, all, rfl, hB, hb, hal, hkk⟩ := hkids hpl'.1
            have hzl : Cal.szL l ≤ 1000000 := by unfold Cal.sz at hz; omega
            refine RX.seq ?_; refine RX.region ?_; refine RU.rd (V.mv rfl) ?_; refine RU.rd (V.fld0 f26_3 rfl) ?_; refine RU.rd (V.ld s24 rfl (cur hB1) rfl) ?_
            refine RU.lo (L.call fn61 rfl (c61g (fun c hc => runOk db of now q pk m c) h2 ho hm hB (hb.gr gr2) hal (fun i hi => (hkk i hi).ch gr2 (fun _ _ => id)) hpl'.2 hzl) ?_)
            rintro _ w3 ⟨sl, gv3, rfl, hO3, ch3, hQ3, hg3⟩
            rw [hcap, hrank] at hO3 hQ3 ⊢
            have hC3 := hC2.trans ch3
            refine RU.rd (V.ext rfl rfl) ?_; refine RU.rd (V.ext rfl rfl) ?_; refine RU.rd (V.as rfl) ?_; refine RU.rd (V.as rfl) ?_; refine RU.nil ?_; refine RX.rt Tryz.func28 (by rfl) (ResOk.tmp rfl (ResOk.tmp rfl (ResOk.nil))) ?_
            exact ⟨sl, gv3, rfl, Own.base hO3 gr2.size, hC3, hQ3, fun c hc => (hg3 c hc).imp id fun h => by omega⟩
          · refine RX.seq ?_; refine RX.region ?_; refine RU.rd (V.eql rfl rfl) ?_; refine RU.rd (V.as rfl) ?_; refine RU.nil ?_; refine RX.condD rfl (fun h5 => ?_) fun h5 => ?_
            · have hk1 : k = 3 := by assumption
              subst hk1
              refine RX.seq ?_; refine RX.seq ?_; refine RX.region ?_; refine RU.rd (V.fld0 f80_9 rfl) ?_; refine RU.rd (V.ld s3 rfl (cur hB2) rfl) ?_; refine RU.rd (V.lss rfl rfl) ?_; refine RU.nil ?_
              refine RX.condD rfl (fun h6 => ?_) fun h6 => ?_
              · have hrk : rank < 1 := by rw [← hrank]; assumption
                have e1 : (Cal.mk 3 to n l).run of now cap rank s = (s, [], 8) := by simp [Cal.run, *]
                rw [e1]
                refine RX.seq ?_; refine RX.region ?_; refine RU.rd (V.as rfl) ?_; refine RU.rd (V.as rfl) ?_; refine RU.nil ?_; refine RX.rt Tryz.func28 (by rfl) (ResOk.tmp rfl (ResOk.tmp rfl (ResOk.nil))) ?_
                exact ⟨_, gv, rfl, .nil, hC2, h2.hq, fun c hc => .inl hc⟩
              · have hrk : ¬ rank < 1 := by rw [← hrank]; assumption
                have e1 : (Cal.mk 3 to n l).run of now cap rank s = canS now n s := by simp [Cal.run, *]
                rw [e1]
                refine RX.skip ?_; refine RX.seq ?_
                refine RX.draw (Ch Nil w2) [3, 7, 9, 13] [(0, true), (1, true), (2, true), (3, true), (4, true), (5, true), (6, true), (7, true), (8, true), (9, true), (10, true), (11, true), (12, true), (13, true), (14, false), (15, true), (16, true), (17, true), (18, true)] mixed (by kernel_rfl) fun w3 gr3 hz3 => ?_
                have hC3 := hC2.trans (Ch.of_grow gr3); have hB2d3 := hB2.gr gr3; have hd2d3 := hd2.gr gr3; have hB1d3 := hB1.gr gr3; refine RD.rz rfl (V.mv rfl) ?_; refine RD.rz rfl (V.nck rfl) ?_; refine RD.rz rfl (V.fld0 f86_2 rfl) ?_
                refine RD.rd rfl rfl gr3 (V.ld s33 rfl (fun _ hS => hd2.gr hS) rfl) ?_; refine RD.rz rfl (V.mv rfl) ?_; refine RD.rz rfl (V.nck rfl) ?_; refine RD.rz rfl (V.fld0 f86_1 rfl) ?_
                refine RD.rd rfl rfl gr3 (V.ld s32 rfl (fun _ hS => hd2.gr hS) rfl) ?_; refine RD.rz rfl (V.fld0 f26_2 rfl) ?_; refine RD.rd rfl rfl gr3 (V.ld s3 rfl (fun _ hS => hB1.gr hS) rfl) ?_; refine RD.rz rfl (V.mv rfl) ?_
                refine RD.rz rfl (V.nck rfl) ?_; refine RD.rz rfl (V.fld0 f86_4 rfl) ?_; refine RD.rd rfl rfl gr3 (V.ld s3 rfl (fun _ hS => hd2.gr hS) rfl) ?_
                have h3 := h2.gr gr3
                have z3 := gr3.size
                refine RD.lf rfl (by kernel_rfl) (L.call fn62 rfl (c62 (b := n) (now := now) h3.hq ho.hr) ?_)
                rintro _ w4 ⟨sl, gv4, rfl, hO4, ch4, hQ4, hg4⟩
                have hC4 : Ch (q.chg pk m) w w4 := hC3.trans' ch4 (fun _ _ h => by
                  rcases h with rfl | ⟨h1, rfl⟩
                  · exact .inr (.inl rfl)
                  · exact .inr (.inr ⟨_, by rw [← hm]; exact h1, rfl⟩))
                refine RD.rz rfl (V.ext rfl rfl) ?_; refine RD.rz rfl (V.ext rfl rfl) ?_; refine RD.rz rfl (V.as rfl) ?_; refine RD.rz rfl (V.as rfl) ?_; refine RD.nil ?_
                refine RX.rt Tryz.func28 (by rfl) (ResOk.tmp rfl (ResOk.tmp rfl (ResOk.nil))) ?_
                exact ⟨sl, gv4, rfl, Own.base hO4 (by omega), hC4, hQ4, fun c hc => (hg4 c hc).imp id fun h => by omega⟩
            · refine RX.skip ?_; refine RX.inBlock ?_; refine RX.seq ?_; refine RX.seq ?_; refine RX.region ?_; refine RU.rd (V.fld0 f80_9 rfl) ?_; refine RU.rd (V.ld s3 rfl (cur hB2) rfl) ?_; refine RU.rd (V.lss rfl rfl) ?_
              refine RU.nil ?_; refine RX.condD rfl (fun h6 => ?_) fun h6 => ?_
              · have hrk : rank < 2 := by rw [← hrank]; assumption
                have e1 : (Cal.mk k to n l).run of now cap rank s = (s, [], 8) := by simp [Cal.run, *]
                rw [e1]
                refine RX.seq ?_; refine RX.region ?_; refine RU.rd (V.as rfl) ?_; refine RU.rd (V.as rfl) ?_; refine RU.nil ?_; refine RX.rt Tryz.func28 (by rfl) (ResOk.tmp rfl (ResOk.tmp rfl (ResOk.nil))) ?_
                exact ⟨_, gv, rfl, .nil, hC2, h2.hq, fun c hc => .inl hc⟩
              · have hrk : ¬ rank < 2 := by rw [← hrank]; assumption
                have e1 : (Cal.mk k to n l).run of now cap rank s = kilS now n s := by simp [Cal.run, *]
                rw [e1]
                refine RX.skip ?_; refine RX.seq ?_
                refine RX.draw (Ch Nil w2) [3, 7, 11, 13, 17] [(0, true), (1, true), (2, true), (3, true), (4, true), (5, true), (6, true), (7, true), (8, true), (9, true), (10, true), (11, true), (12, true), (13, true), (14, true), (15, true), (16, true), (17, true), (18, false), (19, true), (20, true), (21, true), (22, true)] mixed (by kernel_rfl) fun w3 gr3 hz3 => ?_
                have hC3 := hC2.trans (Ch.of_grow gr3); have hB1d3 := hB1.gr gr3; have hB2d3 := hB2.gr gr3; have hd2d3 := hd2.gr gr3; refine RD.rz rfl (V.mv rfl) ?_; refine RD.rz rfl (V.nck rfl) ?_; refine RD.rz rfl (V.fld0 f86_2 rfl) ?_
                refine RD.rd rfl rfl gr3 (V.ld s33 rfl (fun _ hS => hd2.gr hS) rfl) ?_; refine RD.rz rfl (V.mv rfl) ?_; refine RD.rz rfl (V.nck rfl) ?_; refine RD.rz rfl (V.fld0 f86_0 rfl) ?_
                refine RD.rd rfl rfl gr3 (V.ld s31 rfl (fun _ hS => hd2.gr hS) rfl) ?_; refine RD.rz rfl (V.mv rfl) ?_; refine RD.rz rfl (V.nck rfl) ?_; refine RD.rz rfl (V.fld0 f86_1 rfl) ?_
                refine RD.rd rfl rfl gr3 (V.ld s32 rfl (fun _ hS => hd2.gr hS) rfl) ?_; refine RD.rz rfl (V.fld0 f26_2 rfl) ?_; refine RD.rd rfl rfl gr3 (V.ld s3 rfl (fun _ hS => hB1.gr hS) rfl) ?_; refine RD.rz rfl (V.mv rfl) ?_
                refine RD.rz rfl (V.nck rfl) ?_; refine RD.rz rfl (V.fld0 f86_4 rfl) ?_; refine RD.rd rfl rfl gr3 (V.ld s3 rfl (fun _ hS => hd2.gr hS) rfl) ?_
                have h3 := h2.gr gr3
                have z3 := gr3.size
                refine RD.lf rfl (by kernel_rfl) (L.call fn63 rfl (c63 (b := n) (now := now) h3.hq ho.hr) ?_)
                rintro _ w4 ⟨sl, gv4, rfl, hO4, ch4, hQ4, hg4⟩
                have hC4 : Ch (q.chg pk m) w w4 := hC3.trans' ch4 (fun _ _ h => by
                  rcases h with rfl | rfl | ⟨h1, rfl⟩
                  · exact .inl rfl
                  · exact .inr (.inl rfl)
                  · exact .inr (.inr ⟨_, by rw [← hm]; exact h1, rfl⟩))
                refine RD.rz rfl (V.ext rfl rfl) ?_; refine RD.rz rfl (V.ext rfl rfl) ?_; refine RD.rz rfl (V.as rfl) ?_; refine RD.rz rfl (V.as rfl) ?_; refine RD.nil ?_
                refine RX.rt Tryz.func28 (by rfl) (ResOk.tmp rfl (ResOk.tmp rfl (ResOk.nil))) ?_
                exact ⟨sl, gv4, rfl, Own.base hO4 (by omega), hC4, hQ4, fun c hc => (hg4 c hc).imp id fun h => by omega⟩
    · refine RX.draw2 (Ch Nil w1) [0, 1, 2, 3, 4, 5, 6, 7] [(0, true), (1, true), (2, true), (3, true), (4, true), (5, true), (6, true), (7, true)] 8 12 [(9, true), (10, true), (11, true), (12, false), (13, false), (14, true)] [(8, false), (9, true), (10, true), (11, true), (13, false), (14, true)]
        [(0, true), (1, true), (2, true), (3, true), (4, true), (5, true), (6, true), (7, true), (8, false), (9, true), (10, true), (11, true), (12, false), (13, false), (14, true)] [(0, true), (1, true), (2, true), (3, true), (4, true), (5, true), (6, true), (7, true), (12, false), (8, false), (9, true), (10, true), (11, true), (13, false), (14, true)] rfl rfl mixed (by kernel_rfl) (fun w2 gr2 hz2 => ?_) (fun w2 gr2 hz2 => ?_)
      · have hC2 := hC1.trans (.of_grow gr2)
        refine RD.rd rfl rfl gr2 (V.mv rfl) ?_; refine RD.rd rfl rfl gr2 (V.nck rfl) ?_; refine RD.rd rfl rfl gr2 (V.fld0 f86_2 rfl) ?_; refine RD.rd rfl rfl gr2 (V.ld s33 rfl (fun _ hS => (hd.gr gr1).gr hS) rfl) ?_
        refine RD.rd rfl rfl gr2 (V.mv rfl) ?_; refine RD.rd rfl rfl gr2 (V.nck rfl) ?_; refine RD.rd rfl rfl gr2 (V.fld0 f86_3 rfl) ?_; refine RD.rd rfl rfl gr2 (V.ld s3 rfl (fun _ hS => (hd.gr gr1).gr hS) rfl) ?_
        refine RD.lf rfl (by kernel_rfl) (L.call fn26 rfl (c26 (hr.ch hC2 (by first | assumption | omega | (dsimp only; omega) | (simp; omega))) (ht.ch hC2 (by first | assumption | omega | (dsimp only; omega) | (simp; omega)))) ?_)
        rintro _ w3 ⟨rfl, gr3⟩; have hC3 := hC2.trans (Ch.of_grow gr3); refine RD.rz rfl (V.mv rfl) ?_; refine RD.rz rfl (V.ext rfl rfl) ?_; refine RD.rz rfl (V.ext rfl rfl) ?_
        have hS3 : Ch Nil w1 w3 := gr2.trans gr3
        refine RD.lo rfl (L.al hC3 z80 fun b4 w4 hb4 le4 hC4 gr4 hz4 hB4 => ⟨hS3.trans (Ch.of_grow gr4), ?_⟩); have hS4 := hS3.trans (Ch.of_grow gr4)
        refine RD.lf0 rfl (by kernel_rfl) (L.stN hC4 sz80 rfl rfl rfl rfl hB4 rfl le4 fun w5 hC5 ch5 hz5 hB5 => ?_)
        refine RD.rq rfl (by kernel_rfl) (V.as rfl) ?_
        refine RD.nil ?_
        refine RX.keep [(0, _), (3, _), (4, _), (5, _), (6, _)] ⟨rfl, rfl, rfl, rfl, rfl, trivial⟩ ?_
        have z2 := gr2.size
        have z3 := gr3.size
        have z4 := gr4.size
        have hS4 := (gr2.trans gr3).trans gr4
        exact rest _ _ ⟨b4, rfl, (gr1.trans hS4).trans' ch5 (by rintro b hb rfl; omega), by omega, by omega, (hB1.gr hS4).ch ch5 (by omega), hB5⟩
      · have hC2 := hC1.trans (.of_grow gr2)
        refine RD.rd rfl rfl gr2 (V.mv rfl) ?_; refine RD.rd rfl rfl gr2 (V.nck rfl) ?_; refine RD.rd rfl rfl gr2 (V.fld0 f86_2 rfl) ?_; refine RD.rd rfl rfl gr2 (V.ld s33 rfl (fun _ hS => (hd.gr gr1).gr hS) rfl) ?_
        refine RD.rd rfl rfl gr2 (V.mv rfl) ?_; refine RD.rd rfl rfl gr2 (V.nck rfl) ?_; refine RD.rd rfl rfl gr2 (V.fld0 f86_3 rfl) ?_; refine RD.rd rfl rfl gr2 (V.ld s3 rfl (fun _ hS => (hd.gr gr1).gr hS) rfl) ?_
        refine RD.lo rfl (L.al hC2 z80 fun b3 w3 hb3 le3 hC3 gr3 hz3 hB3 => ⟨gr2.trans (Ch.of_grow gr3), ?_⟩); have hS3 := gr2.trans (Ch.of_grow gr3)
        refine RD.lf rfl (by kernel_rfl) (L.call fn26 rfl (c26 (ts := theTracks) (hr.ch hC3 n2) (ht.ch hC3 n3)) ?_)
        rintro _ w4 ⟨rfl, gr4⟩
        have hC4 := hC3.trans (.of_grow gr4)
        refine RD.rz rfl (V.mv rfl) ?_; refine RD.rz rfl (V.ext rfl rfl) ?_; refine RD.rz rfl (V.ext rfl rfl) ?_
        refine RD.lf0 rfl (by kernel_rfl) (L.stN hC4 sz80 rfl rfl rfl rfl (hB3.gr gr4) rfl le3 fun w5 hC5 ch5 hz5 hB5 => ?_)
        refine RD.rq rfl (by kernel_rfl) (V.as rfl) ?_
        refine RD.nil ?_
        refine RX.keep [(0, _), (3, _), (4, _), (5, _), (6, _)] ⟨rfl, rfl, rfl, rfl, rfl, trivial⟩ ?_
        have z2 := gr2.size
        have z3 := gr3.size
        have z4 := gr4.size
        have hS4 := (gr2.trans gr3).trans gr4
        exact rest _ _ ⟨b3, rfl, (gr1.trans hS4).trans' ch5 (by rintro b hb rfl; omega), by omega, by omega, (hB1.gr hS4).ch ch5 (by omega), hB5⟩
end Go.Proofs.YtmcfbinkofoagaaGreat
