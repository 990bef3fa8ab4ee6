/- The document's ledger: what is held is laid down. -/
import Derived.Test.YtmcfbinkofoagaaGreatSC
namespace Go.Proofs.YtmcfbinkofoagaaGreat
open Go Go.RowKit Sx Go.Proofs

theorem XAt.at0 {w : World} {x : XG} {D : Led} (_ : XAt w x D) (i : Nat) (hi : i < D.acc.length) : (rws accX D.acc)[0 + i * 3 + 0]? = some (.int .i64 D.acc[i].1) := accX_get D.acc i 0 hi (by decide)
theorem XAt.ch {w w1 : World} {x : XG} {D : Led} {S : Nat → Prop} (h : XAt w x D) (hc : Ch S w w1) (h1 : ¬ S x.xb) (h2 : ¬ S x.ab) : XAt w1 x D := ⟨h.hb.ch hc h1, h.ha.ch hc h2, h.hl, h.hk, h.ne⟩
theorem XAt.gr {w w1 : World} {x : XG} {D : Led} (h : XAt w x D) (hc : Grow w w1) : XAt w1 x D := h.ch hc id id
theorem Led.lockd0 {D : Led} (hk : D.locks = []) (a : Int) : D.lockd a = 0 := by simp [Led.lockd, hk, rowOf, maxOf]
theorem c55 {n : Int} {w : World} : Calls Tryz.prog 55 #[.int .i64 n] w (Ret fun v w' => v = .bool (decide (Led.is n)) ∧ w' = w) := by
  refine calls_of_rx (args := [_]) (e := [(0, _)]) (n := 9) Tryz.func55 rfl rfl rfl (by kernel_rfl) rfl ?_
  have hC := Ch.refl Nil w
  refine RX.seq ?_; refine RX.region ?_; refine RU.rd (V.as rfl) ?_; refine RU.nil ?_; refine RX.seq ?_; refine RX.region ?_; refine RU.rd (V.mv rfl) ?_; refine RU.rd (V.geq rfl rfl) ?_; refine RU.rd (V.mv rfl) ?_
  refine RU.splitD (fun h1 => ?_) fun h1 => ?_
  · refine RU.rdG rfl rfl (V.mv rfl) ?_; refine RU.rdG rfl rfl (V.lss rfl rfl) ?_; refine RU.rd (V.pickT rfl rfl) ?_; refine RU.rd (V.as rfl) ?_; refine RU.nil ?_
    refine RX.rt Tryz.func55 (by rfl) (ResOk.tmp rfl (ResOk.nil)) ?_; exact ⟨by simp [tup, Led.is, *], rfl⟩
  · refine RU.sk rfl rfl rfl ?_; refine RU.sk rfl rfl rfl ?_; refine RU.rd (V.pickF rfl rfl) ?_; refine RU.rd (V.as rfl) ?_; refine RU.nil ?_; refine RX.rt Tryz.func55 (by rfl) (ResOk.tmp rfl (ResOk.nil)) ?_
    exact ⟨by simp [tup, Led.is, *], rfl⟩
theorem c96 {w : World} {x : XG} {D : Led} {a : Int} (h : XAt w x D) : Calls Tryz.prog 96 #[.pointer (some ⟨x.xb, 0, none⟩), .int .i64 a] w (Ret fun v w' => v = .int .i64 0 ∧ Grow w w') := by
  have hb := h.hb
  have ha := h.ha
  have hl := h.hl
  have at2 : ∀ i (_ : i < D.acc.length), (rws accX D.acc)[0 + i * 3 + 2]? = some (.slice none 0 0) := fun i hi => accX_get D.acc i 2 hi (by decide)
  refine calls_of_rx (args := [_, _]) (e := [(0, _), (1, _)]) (n := 39) Tryz.func96 rfl rfl rfl (by kernel_rfl) rfl ?_
  have hC := Ch.refl Nil w
  refine RX.seq ?_; refine RX.region ?_; refine RU.rd (V.as rfl) ?_; refine RU.nil ?_; refine RX.seq ?_; refine RX.region ?_; refine RU.rd (V.as rfl) ?_; refine RU.nil ?_; refine RX.seq ?_; refine RX.seq ?_
  refine RX.region ?_; refine RU.rd (V.as rfl) ?_; refine RU.nil ?_; refine RX.block ?_
  refine RX.keep [(0, _), (1, _), (5, _), (6, _)] ⟨rfl, rfl, rfl, rfl, trivial⟩ ?_
  refine RX.loop (fun d e w' => e = [(0, .pointer (some ⟨x.xb, 0, none⟩)), (1, .int .i64 a), (5, .int .i64 0), (6, .int .i64 0)] ∧ w' = w) 0 ⟨rfl, rfl⟩ ?_
  rintro d e w' ⟨rfl, rfl⟩ -
  by_cases hi : Led.is a
  · have h1 := hi.1
    have h2 := hi.2
    refine RX.seq ?_; refine RX.seq ?_; refine RX.region ?_; refine RU.rd (V.mv rfl) ?_; refine RU.lo (L.call fn55 rfl (c55) ?_); rintro _ w1 ⟨rfl, hq1⟩; rw [hq1]; clear hq1 w1; refine RU.rd (V.mv rfl) ?_
    refine RU.splitD (fun h3 => ?_) (fun _ => by contradiction); refine RU.rdG rfl rfl (V.mv rfl) ?_; refine RU.rdG rfl rfl (V.mv rfl) ?_; refine RU.rdG rfl rfl (V.nck rfl) ?_; refine RU.rdG rfl rfl (V.fld0 f111_0 rfl) ?_
    refine RU.rdG rfl rfl (V.ld s109 rfl (cur hb) rfl) ?_; refine RU.rdG rfl rfl (V.mv rfl) ?_; refine RU.rdG rfl rfl (V.idx e109 rfl rfl (by omega)) ?_; refine RU.rdG rfl rfl (V.fld f114_2 rfl) ?_
    refine RU.rdG rfl rfl (V.ld s112 rfl (cur ha) (at2 _ (by omega))) ?_; refine RU.rdG rfl rfl (V.len u112 rfl) ?_; refine RU.rdG rfl rfl (V.lss rfl rfl) ?_; refine RU.rd (V.pickT rfl rfl) ?_; refine RU.nil ?_
    refine RX.condF rfl ?_; refine RX.exit rfl ?_; refine RX.seq ?_; refine RX.region ?_; refine RU.rd (V.mv rfl) ?_; refine RU.rd (V.as rfl) ?_; refine RU.nil ?_
    refine RX.rt Tryz.func96 (by rfl) (ResOk.tmp rfl (ResOk.nil)) ?_
    exact ⟨rfl, hC⟩
  · refine RX.seq ?_; refine RX.seq ?_; refine RX.region ?_; refine RU.rd (V.mv rfl) ?_; refine RU.lo (L.call fn55 rfl (c55) ?_); rintro _ w1 ⟨rfl, hq1⟩; rw [hq1]; clear hq1 w1; refine RU.rd (V.mv rfl) ?_
    refine RU.splitD (fun _ => by contradiction) fun h1 => ?_; refine RU.sk rfl rfl rfl ?_; refine RU.sk rfl rfl rfl ?_; refine RU.sk rfl rfl rfl ?_; refine RU.sk rfl rfl rfl ?_; refine RU.sk rfl rfl rfl ?_
    refine RU.sk rfl rfl rfl ?_; refine RU.sk rfl rfl rfl ?_; refine RU.sk rfl rfl rfl ?_; refine RU.sk rfl rfl rfl ?_; refine RU.sk rfl rfl rfl ?_; refine RU.sk rfl rfl rfl ?_; refine RU.rd (V.pickF rfl rfl) ?_
    refine RU.nil ?_; refine RX.condF rfl ?_; refine RX.exit rfl ?_; refine RX.seq ?_; refine RX.region ?_; refine RU.rd (V.mv rfl) ?_; refine RU.rd (V.as rfl) ?_; refine RU.nil ?_
    refine RX.rt Tryz.func96 (by rfl) (ResOk.tmp rfl (ResOk.nil)) ?_
    exact ⟨rfl, hC⟩
theorem c66 {w : World} {x : XG} {D : Led} {a n : Int} (h : XAt w x D) (ho : D.Ok) : Calls Tryz.prog 66 #[.pointer (some ⟨x.xb, 0, none⟩), .int .i64 a, .int .i64 n] w (Ret fun v w' => v = .int .i64 (D.may a n) ∧ Grow w w') := by
  have hb := h.hb
  have ha := h.ha
  have hl := h.hl
  have h1 := ho.at hl a
  have at1 := h.at0
  have hk0 := Led.lockd0 h.hk a
  refine calls_of_rx (args := [_, _, _]) (e := [(0, _), (1, _), (2, _)]) (n := 49) Tryz.func66 rfl rfl rfl (by kernel_rfl) rfl ?_
  have hC := Ch.refl Nil w
  by_cases hi : Led.is a
  · have h2 := hi.1
    have h3 := hi.2
    have e1 := congrArg (·.1) (Led.at_of (D := D) hi.1 (by omega) hl)
    refine RX.seq ?_; refine RX.region ?_; refine RU.rd (V.as rfl) ?_; refine RU.nil ?_; refine RX.seq ?_; refine RX.block ?_; refine RX.seq ?_; refine RX.region ?_; refine RU.rd (V.mv rfl) ?_
    refine RU.lo (L.call fn55 rfl (c55) ?_); rintro _ w1 ⟨rfl, hq1⟩; rw [hq1]; clear hq1 w1; refine RU.rd (V.notD rfl) ?_; refine RU.rd (V.mv rfl) ?_; refine RU.splitD (fun _ => by contradiction) fun h4 => ?_
    refine RU.rdG rfl rfl (V.mv rfl) ?_; refine RU.rdG rfl rfl (V.lss rfl rfl) ?_; refine RU.rd (V.pickF rfl rfl) ?_; refine RU.rd (V.mv rfl) ?_; refine RU.splitD (fun h5 => ?_) fun h5 => ?_
    · refine RU.sk rfl rfl rfl ?_; refine RU.sk rfl rfl rfl ?_; refine RU.rd (V.pickT rfl rfl) ?_; refine RU.rd (V.as rfl) ?_; refine RU.nil ?_; refine RX.condT rfl ?_; refine RX.seq ?_; refine RX.region ?_
      refine RU.rd (V.as rfl) ?_; refine RU.nil ?_; refine RX.rt Tryz.func66 (by rfl) (ResOk.tmp rfl (ResOk.nil)) ?_
      exact ⟨congrArg (Value.int .i64) (by unfold Led.may; rw [hk0]; unfold Led.is at *; (repeat' split) <;> first | rfl | omega), by assumption⟩
    · refine RU.rdG rfl rfl (V.mv rfl) ?_; refine RU.rdG rfl rfl (V.gtr rfl rfl) ?_; refine RU.rd (V.pickF rfl rfl) ?_; refine RU.rd (V.as rfl) ?_; refine RU.nil ?_; refine RX.condD rfl (fun h6 => ?_) fun h6 => ?_
      · refine RX.seq ?_; refine RX.region ?_; refine RU.rd (V.as rfl) ?_; refine RU.nil ?_; refine RX.rt Tryz.func66 (by rfl) (ResOk.tmp rfl (ResOk.nil)) ?_
        exact ⟨congrArg (Value.int .i64) (by unfold Led.may; rw [hk0]; unfold Led.is at *; (repeat' split) <;> first | rfl | omega), by assumption⟩
      · refine RX.seq ?_; refine RX.region ?_; refine RU.rd (V.mv rfl) ?_; refine RU.rd (V.mv rfl) ?_; refine RU.rd (V.nck rfl) ?_; refine RU.rd (V.fld0 f111_0 rfl) ?_; refine RU.rd (V.ld s109 rfl (cur hb) rfl) ?_
        refine RU.rd (V.mv rfl) ?_; refine RU.rd (V.idx e109 rfl rfl (by omega)) ?_; refine RU.rd (V.fld f114_0 rfl) ?_; refine RU.rd (V.ld s3 rfl (cur ha) (at1 _ (by omega))) ?_; refine RU.rd (V.gtr rfl rfl) ?_
        refine RU.rd (V.as rfl) ?_; refine RU.nil ?_; refine RX.condD rfl (fun h7 => ?_) fun h7 => ?_
        · refine RX.seq ?_; refine RX.region ?_; refine RU.rd (V.as rfl) ?_; refine RU.nil ?_; refine RX.rt Tryz.func66 (by rfl) (ResOk.tmp rfl (ResOk.nil)) ?_
          exact ⟨congrArg (Value.int .i64) (by unfold Led.may; rw [hk0]; unfold Led.is at *; (repeat' split) <;> first | rfl | omega), by assumption⟩
        · refine RX.seq ?_
          refine RX.draw (Ch Nil w) [6, 10] [(0, true), (1, true), (2, true), (3, true), (4, true), (5, true), (6, true), (7, true), (8, true), (9, true), (10, true), (11, true), (12, true), (13, true), (14, true), (15, false), (16, true), (17, true), (18, true)] mixed (by kernel_rfl) fun w1 gr1 hz1 => ?_
          have hC1 := hC.trans (Ch.of_grow gr1); refine RD.rz rfl (V.mv rfl) ?_; refine RD.rz rfl (V.gtr rfl rfl) ?_; refine RD.rz rfl (V.mv rfl) ?_; refine RD.splitD (fun h8 => ?_) fun h8 => ?_
          · refine RD.rzG rfl rfl rfl (V.mv rfl) ?_; refine RD.rzG rfl rfl rfl (V.nck rfl) ?_; refine RD.rzG rfl rfl rfl (V.fld0 f111_0 rfl) ?_
            refine RD.rdG rfl rfl rfl rfl hC1 (V.ld s109 rfl (fun _ hS => hb.gr hS) rfl) ?_; refine RD.rzG rfl rfl rfl (V.mv rfl) ?_; refine RD.rzG rfl rfl rfl (V.idx e109 rfl rfl (by omega)) ?_
            refine RD.rzG rfl rfl rfl (V.fld f114_0 rfl) ?_; refine RD.rdG rfl rfl rfl rfl hC1 (V.ld s3 rfl (fun _ hS => ha.gr hS) (at1 _ (by omega))) ?_; refine RD.rzG rfl rfl rfl (V.mv rfl) ?_
            refine RD.rzG rfl rfl rfl (V.sub rfl rfl (by omega)) ?_; refine RD.rzG rfl rfl rfl (V.mv rfl) ?_; refine RD.rzG rfl rfl rfl (V.mv rfl) ?_; refine RD.loG rfl rfl rfl (L.call fn96 rfl (c96 (h.gr hC1)) ?_)
            rintro _ w2 ⟨rfl, gr2⟩; have hS2 := hC1.trans (Ch.of_grow gr2); refine ⟨hS2, ?_⟩; have hC2 := hC1.trans (Ch.of_grow gr2); refine RD.rzG rfl rfl rfl (V.lss rfl rfl) ?_; refine RD.rz rfl (V.pickT rfl rfl) ?_
            refine RD.rz rfl (V.as rfl) ?_; refine RD.nil ?_; refine RX.condD rfl (fun _ => by omega) fun h9 => ?_; refine RX.skip ?_; refine RX.inBlock ?_; refine RX.seq ?_; refine RX.region ?_
            refine RU.rd (V.as rfl) ?_; refine RU.nil ?_; refine RX.rt Tryz.func66 (by rfl) (ResOk.tmp rfl (ResOk.nil)) ?_
            exact ⟨congrArg (Value.int .i64) (by unfold Led.may; rw [hk0]; unfold Led.is at *; (repeat' split) <;> first | rfl | omega), by assumption⟩
          · refine RD.skz rfl rfl rfl rfl rfl ?_; refine RD.skz rfl rfl rfl rfl rfl ?_; refine RD.skz rfl rfl rfl rfl rfl ?_; refine RD.sk rfl rfl rfl rfl rfl hC1 rfl ?_; refine RD.skz rfl rfl rfl rfl rfl ?_
            refine RD.skz rfl rfl rfl rfl rfl ?_; refine RD.skz rfl rfl rfl rfl rfl ?_; refine RD.sk rfl rfl rfl rfl rfl hC1 rfl ?_; refine RD.skz rfl rfl rfl rfl rfl ?_; refine RD.skz rfl rfl rfl rfl rfl ?_
            refine RD.skz rfl rfl rfl rfl rfl ?_; refine RD.skz rfl rfl rfl rfl rfl ?_; refine RD.skL rfl rfl rfl rfl hC1 ?_; refine RD.skz rfl rfl rfl rfl rfl ?_; refine RD.rz rfl (V.pickF rfl rfl) ?_
            refine RD.rz rfl (V.as rfl) ?_; refine RD.nil ?_; refine RX.condF rfl ?_; refine RX.skip ?_; refine RX.inBlock ?_; refine RX.seq ?_; refine RX.region ?_; refine RU.rd (V.as rfl) ?_; refine RU.nil ?_
            refine RX.rt Tryz.func66 (by rfl) (ResOk.tmp rfl (ResOk.nil)) ?_; exact ⟨congrArg (Value.int .i64) (by unfold Led.may; rw [hk0]; unfold Led.is at *; (repeat' split) <;> first | rfl | omega), by assumption⟩
  · refine RX.seq ?_; refine RX.region ?_; refine RU.rd (V.as rfl) ?_; refine RU.nil ?_; refine RX.seq ?_; refine RX.block ?_; refine RX.seq ?_; refine RX.region ?_; refine RU.rd (V.mv rfl) ?_
    refine RU.lo (L.call fn55 rfl (c55) ?_); rintro _ w1 ⟨rfl, hq1⟩; rw [hq1]; clear hq1 w1; refine RU.rd (V.notD rfl) ?_; refine RU.rd (V.mv rfl) ?_; refine RU.splitD (fun h2 => ?_) (fun _ => by contradiction)
    refine RU.sk rfl rfl rfl ?_; refine RU.sk rfl rfl rfl ?_; refine RU.rd (V.pickT rfl rfl) ?_; refine RU.rd (V.mv rfl) ?_; refine RU.sk rfl rfl rfl ?_; refine RU.sk rfl rfl rfl ?_; refine RU.rd (V.pickT rfl rfl) ?_
    refine RU.rd (V.as rfl) ?_; refine RU.nil ?_; refine RX.condT rfl ?_; refine RX.seq ?_; refine RX.region ?_; refine RU.rd (V.as rfl) ?_; refine RU.nil ?_; refine RX.rt Tryz.func66 (by rfl) (ResOk.tmp rfl (ResOk.nil)) ?_
    exact ⟨congrArg (Value.int .i64) (by unfold Led.may; rw [if_pos (.inl hi)]), by assumption⟩
theorem XAt.upd {w w1 : World} {x : XG} {D D' : Led} (h : XAt w x D) (hc : Ch (· = x.ab) w w1) (hl : D'.acc.length = 10) (hk : D'.locks = D.locks) (hb : Blk w1 x.ab (rws accX D'.acc) 114) : XAt w1 x D' :=
  ⟨h.hb.ch hc h.ne, hb, hl, by rw [hk]; exact h.hk, h.ne⟩
theorem Led.res_ok {D : Led} (ho : D.Ok) (hl : D.acc.length = 10) (a n : Int) : (D.res a n).Ok ∧ (D.res a n).locks = D.locks ∧ (D.res a n).acc.length = 10 := by
  unfold Led.res
  split
  · rename_i hm
    obtain ⟨hf, hn0, hn1, hn2⟩ := Led.may_ok hm
    have h1 := ho.at hl a
    have h2 := ho.2
    exact ⟨Led.put_ok ho hl hf ⟨by dsimp only; omega, by dsimp only; omega⟩ (by dsimp only; omega), rfl, by rw [Led.put_len]; exact hl⟩
  · exact ⟨ho, rfl, hl⟩
theorem c57 {w : World} {x : XG} {D : Led} {a n : Int} (h : XAt w x D) (ho : D.Ok) : Calls Tryz.prog 57 #[.pointer (some ⟨x.xb, 0, none⟩), .int .i64 a, .int .i64 n] w
    (Ret fun v w' => v = .int .i64 (D.may a n) ∧ Ch (· = x.ab) w w' ∧ XAt w' x (D.res a n)) := by
  have hb := h.hb
  have ha := h.ha
  have hl := h.hl
  have at1 := h.at0
  have at2 : ∀ i (_ : i < D.acc.length), (rws accX D.acc)[0 + i * 3 + 1]? = some (.int .i64 D.acc[i].2) := fun i hi => accX_get D.acc i 1 hi (by decide)
  refine calls_of_rx (args := [_, _, _]) (e := [(0, _), (1, _), (2, _)]) (n := 49) Tryz.func57 rfl rfl rfl (by kernel_rfl) rfl ?_
  have hC := Ch.refl (· = x.ab) w
  have uq := True.intro
  refine RX.seq ?_; refine RX.region ?_; refine RU.rd (V.as rfl) ?_; refine RU.nil ?_; refine RX.seq ?_; refine RX.region ?_; refine RU.rd (V.mv rfl) ?_; refine RU.rd (V.mv rfl) ?_; refine RU.rd (V.mv rfl) ?_
  refine RU.lo (L.call fn66 rfl (c66 h ?_) ?_); assumption; rintro _ w1 ⟨rfl, gr1⟩; have hC1 := hC.trans (Ch.of_grow gr1); refine RU.rd (V.as rfl) ?_; refine RU.nil ?_; refine RX.seq ?_; refine RX.seq ?_
  refine RX.region ?_; refine RU.rd (V.mv rfl) ?_; refine RU.rd (V.neq rfl rfl) ?_; refine RU.nil ?_; refine RX.condD rfl (fun h1 => ?_) fun h1 => ?_
  · have hm : D.may a n ≠ 0 := by assumption
    refine RX.seq ?_; refine RX.region ?_; refine RU.rd (V.mv rfl) ?_; refine RU.rd (V.as rfl) ?_; refine RU.nil ?_; refine RX.rt Tryz.func57 (by rfl) (ResOk.tmp rfl (ResOk.nil)) ?_
    exact ⟨rfl, by assumption, by unfold Led.res; rw [if_neg hm]; exact h.gr (by assumption)⟩
  · have hm : D.may a n = 0 := Decidable.not_not.1 ‹¬D.may a n ≠ 0›
    obtain ⟨hf, hn0, hn1, hn2⟩ := Led.may_ok hm
    have h1 := hf.1
    have h2 := hf.2
    have h3 := ho.at hl a
    have e1 := Led.at_of (D := D) hf.1 (by omega) hl
    rw [e1] at h3 hn2
    have lxb := hb.lt
    have ne := h.ne
    refine RX.skip ?_; refine RX.seq ?_
    refine RX.draw (Ch Nil w1) [3, 8, 13, 17, 23, 27] [(0, true), (1, true), (2, true), (3, true), (4, true), (5, true), (6, true), (7, true), (8, true), (9, true), (10, true), (11, true), (12, true), (13, true), (14, true), (15, true), (16, true), (17, true), (18, true), (19, true), (20, true), (21, true), (22, true), (23, true), (24, true), (25, true), (26, true), (27, true), (28, true), (29, true), (30, true), (31, true), (32, false), (33, true), (34, true), (35, false)] mixed (by kernel_rfl) fun w2 gr2 hz2 => ?_
    have hC2 := hC1.trans (Ch.of_grow gr2); refine RD.rz rfl (V.mv rfl) ?_; refine RD.rz rfl (V.nck rfl) ?_; refine RD.rz rfl (V.fld0 f111_0 rfl) ?_
    refine RD.rd rfl rfl gr2 (V.ld s109 rfl (fun _ hS => (hb.gr gr1).gr hS) rfl) ?_; refine RD.rz rfl (V.mv rfl) ?_; refine RD.rz rfl (V.mv rfl) ?_; refine RD.rz rfl (V.nck rfl) ?_; refine RD.rz rfl (V.fld0 f111_0 rfl) ?_
    refine RD.rd rfl rfl gr2 (V.ld s109 rfl (fun _ hS => (hb.gr gr1).gr hS) rfl) ?_; refine RD.rz rfl (V.mv rfl) ?_; refine RD.rz rfl (V.mv rfl) ?_; refine RD.rz rfl (V.nck rfl) ?_; refine RD.rz rfl (V.fld0 f111_0 rfl) ?_
    refine RD.rd rfl rfl gr2 (V.ld s109 rfl (fun _ hS => (hb.gr gr1).gr hS) rfl) ?_; refine RD.rz rfl (V.mv rfl) ?_; refine RD.rz rfl (V.idx e109 rfl rfl (by omega)) ?_; refine RD.rz rfl (V.fld f114_0 rfl) ?_
    refine RD.rd rfl rfl gr2 (V.ld s3 rfl (fun _ hS => (ha.gr gr1).gr hS) (at1 _ (by omega))) ?_; refine RD.rz rfl (V.mv rfl) ?_; refine RD.rz rfl (V.sub rfl rfl (by omega)) ?_; refine RD.rz rfl (V.mv rfl) ?_
    refine RD.rz rfl (V.nck rfl) ?_; refine RD.rz rfl (V.fld0 f111_0 rfl) ?_; refine RD.rd rfl rfl gr2 (V.ld s109 rfl (fun _ hS => (hb.gr gr1).gr hS) rfl) ?_; refine RD.rz rfl (V.mv rfl) ?_
    refine RD.rz rfl (V.idx e109 rfl rfl (by omega)) ?_; refine RD.rz rfl (V.fld f114_1 rfl) ?_; refine RD.rd rfl rfl gr2 (V.ld s3 rfl (fun _ hS => (ha.gr gr1).gr hS) (at2 _ (by omega))) ?_; refine RD.rz rfl (V.mv rfl) ?_
    refine RD.rz rfl (V.add rfl rfl (by omega)) ?_; refine RD.rz rfl (V.idx e109 rfl rfl (by omega)) ?_; refine RD.rz rfl (V.fld f114_0 rfl) ?_
    have ln : (rws accX D.acc).length = 30 := by rw [rws_length accX_length, hl]
    have ha2 := (ha.gr gr1).gr gr2
    refine RD.lf0 rfl (by kernel_rfl) (L.st hC2 sz3 rfl rfl rfl rfl ha2 (by rw [ln]; omega) (.inr rfl) fun w3 hC3 ch3 hz3 hB3 => ?_)
    refine RD.rz rfl (V.idx e109 rfl rfl (by omega)) ?_; refine RD.rz rfl (V.fld f114_1 rfl) ?_
    refine RD.lf0 rfl (by kernel_rfl) (L.st hC3 sz3 rfl rfl rfl rfl hB3 (by rw [setAt_length, ln]; omega) (.inr rfl) fun w4 hC4 ch4 hz4 hB4 => ?_)
    refine RD.nil ?_; refine RX.seq ?_; refine RX.region ?_; refine RU.rd (V.as rfl) ?_; refine RU.nil ?_; refine RX.rt Tryz.func57 (by rfl) (ResOk.tmp rfl (ResOk.nil)) ?_
    have hi : a.toNat < D.acc.length := by omega
    have q1 := accX_set D.acc a.toNat 0 hi (D.acc[a.toNat].1 - n) (D.acc[a.toNat].1 - n, D.acc[a.toNat].2) (by decide) rfl
    have q2 := accX_set (D.acc.set a.toNat (D.acc[a.toNat].1 - n, D.acc[a.toNat].2)) a.toNat 1 (by rw [List.length_set]; exact hi) (D.acc[a.toNat].2 + n) (D.acc[a.toNat].1 - n, D.acc[a.toNat].2 + n) (by decide) (by rw [List.getElem_set_self]; rfl)
    rw [List.set_set, ← q1] at q2
    refine ⟨by rw [hm]; rfl, hC4, ?_⟩
    have hr : D.res a n = { D with acc := D.acc.set a.toNat (D.acc[a.toNat].1 - n, D.acc[a.toNat].2 + n) } := by unfold Led.res; rw [if_pos hm, e1]; rfl
    rw [hr]
    exact h.upd hC4 (by simpa using hl) rfl (by rw [← q2]; exact hB4)

/-- The document's polls. -/
def encP (x : Bool × Int × Int × Int) : List Value := [.bool x.1, .int .i64 x.2.1, .int .i64 x.2.2.1, .int .i64 x.2.2.2, .int .i64 0, .int .i64 0, .int .i64 0]
theorem encP_length (x : Bool × Int × Int × Int) : (encP x).length = 7 := rfl
def polP (rs : List Rfd) : List (Bool × Int × Int × Int) := (List.range 12).map fun i => if i < rs.length then (true, (rs.getD i zeroR).track, (rs.getD i zeroR).state, (rs.getD i zeroR).fin) else (false, 0, 0, 0)
theorem polP_len (rs : List Rfd) : (polP rs).length = 12 := by simp [polP]
theorem polP_at (rs : List Rfd) {i : Nat} (h : i < (polP rs).length) : (polP rs)[i] = if i < rs.length then (true, (rs.getD i zeroR).track, (rs.getD i zeroR).state, (rs.getD i zeroR).fin) else (false, 0, 0, 0) := by simp [polP]
theorem polP_get (rs : List Rfd) {i o : Nat} (h : i < 12) (ho : o < 7) : (rws encP (polP rs))[0 + i * 7 + o]? = (encP (if i < rs.length then (true, (rs.getD i zeroR).track, (rs.getD i zeroR).state, (rs.getD i zeroR).fin) else (false, 0, 0, 0)))[o]? := by
  have := rws_get0 encP_length [] (polP rs) i o (by rw [polP_len]; exact h) ho
  rw [List.append_nil, polP_at] at this
  exact this
theorem polP_app (rs : List Rfd) (x : Rfd) (hf : x.state = 1) (hz : x.fin = 0) : (polP rs).set rs.length (true, x.track, 1, 0) = polP (rs ++ [x]) := by
  apply List.ext_getElem
  · rw [List.length_set, polP_len, polP_len]
  · intro i h1 h2
    rw [polP_at, List.getElem_set]
    rw [polP_len] at h2
    by_cases e : rs.length = i
    · subst e
      rw [if_pos rfl, if_pos (by simp)]
      simp [hf, hz]
    · rw [if_neg e, polP_at]
      by_cases hi : i < rs.length
      · rw [if_pos hi, if_pos (by simp; omega)]
        simp [List.getElem?_append_left hi]
      · rw [if_neg hi, if_neg (by simp; omega)]
theorem c81 {n : Int} {w : World} : Calls Tryz.prog 81 #[.int .i64 n] w (Ret fun v w' => v = .bool (decide (0 ≤ n ∧ n < 4)) ∧ w' = w) := by
  refine calls_of_rx (args := [_]) (e := [(0, _)]) (n := 9) Tryz.func81 rfl rfl rfl (by kernel_rfl) rfl ?_
  have hC := Ch.refl Nil w
  refine RX.seq ?_; refine RX.region ?_; refine RU.rd (V.as rfl) ?_; refine RU.nil ?_; refine RX.seq ?_; refine RX.region ?_; refine RU.rd (V.mv rfl) ?_; refine RU.rd (V.geq rfl rfl) ?_; refine RU.rd (V.mv rfl) ?_
  refine RU.splitD (fun h1 => ?_) fun h1 => ?_
  · refine RU.rdG rfl rfl (V.mv rfl) ?_; refine RU.rdG rfl rfl (V.lss rfl rfl) ?_; refine RU.rd (V.pickT rfl rfl) ?_; refine RU.rd (V.as rfl) ?_; refine RU.nil ?_
    refine RX.rt Tryz.func81 (by rfl) (ResOk.tmp rfl (ResOk.nil)) ?_; simp [tup, *]
  · refine RU.sk rfl rfl rfl ?_; refine RU.sk rfl rfl rfl ?_; refine RU.rd (V.pickF rfl rfl) ?_; refine RU.rd (V.as rfl) ?_; refine RU.nil ?_; refine RX.rt Tryz.func81 (by rfl) (ResOk.tmp rfl (ResOk.nil)) ?_
    simp [tup, *]
theorem c56n {w : World} {yb yp : Nat} {rv : Value} {rs : List Rfd} {r : Int} (hy : Blk w yb [.slice (some ⟨yp, 0, none⟩) 12 12, rv] 134) (hp : Blk w yp (rws encP (polP rs)) 171) (hr : r = rs.length) (hn : rs.length < 12) :
    Calls Tryz.prog 56 #[.pointer (some ⟨yb, 0, none⟩), .int .i64 r] w (Ret fun v w' => v = .bool false ∧ w' = w) := by
  subst hr
  have at1 : ∀ j (_ : j = rs.length), (rws encP (polP rs))[0 + j * 7 + 0]? = some (.bool false) := by rintro j rfl; rw [polP_get rs hn (by decide), if_neg (by omega)]; rfl
  refine calls_of_rx (args := [_, _]) (e := [(0, _), (1, _)]) (n := 21) Tryz.func56 rfl rfl rfl (by kernel_rfl) rfl ?_
  have hC := Ch.refl Nil w
  refine RX.seq ?_; refine RX.region ?_; refine RU.rd (V.as rfl) ?_; refine RU.nil ?_; refine RX.seq ?_; refine RX.region ?_; refine RU.rd (V.mv rfl) ?_; refine RU.rd (V.geq rfl rfl) ?_; refine RU.rd (V.mv rfl) ?_
  refine RU.splitD (fun h1 => ?_) (fun _ => by omega); refine RU.rdG rfl rfl (V.mv rfl) ?_; refine RU.rdG rfl rfl (V.lss rfl rfl) ?_; refine RU.rd (V.pickT rfl rfl) ?_; refine RU.rd (V.mv rfl) ?_
  refine RU.splitD (fun h2 => ?_) (fun _ => by omega); refine RU.rdG rfl rfl (V.mv rfl) ?_; refine RU.rdG rfl rfl (V.nck rfl) ?_; refine RU.rdG rfl rfl (V.fld0 f134_0 rfl) ?_
  refine RU.rdG rfl rfl (V.ld s131 rfl (cur hy) rfl) ?_; refine RU.rdG rfl rfl (V.mv rfl) ?_; refine RU.rdG rfl rfl (V.idx e131 rfl rfl (by omega)) ?_; refine RU.rdG rfl rfl (V.fld f171_0 rfl) ?_
  refine RU.rdG rfl rfl (V.ld s4 rfl (cur hp) (at1 _ (by omega))) ?_; refine RU.rd (V.pickT rfl rfl) ?_; refine RU.rd (V.as rfl) ?_; refine RU.nil ?_; refine RX.rt Tryz.func56 (by rfl) (ResOk.tmp rfl (ResOk.nil)) ?_
  exact ⟨rfl, rfl⟩
theorem c58 {w : World} {yb yp : Nat} {rv : Value} {rs : List Rfd} {r t : Int} {x : Rfd} (hy : Blk w yb [.slice (some ⟨yp, 0, none⟩) 12 12, rv] 134) (hp : Blk w yp (rws encP (polP rs)) 171) (hr : r = rs.length) (hn : rs.length < 12) (ht : 0 ≤ t ∧ t < 4)
    (hx : x.track = t) (h1 : x.state = 1) (h2 : x.fin = 0) : Calls Tryz.prog 58 #[.pointer (some ⟨yb, 0, none⟩), .int .i64 r, .int .i64 t] w (Ret fun v w' => v = .int .i64 0 ∧ Ch (· = yp) w w' ∧ Blk w' yp (rws encP (polP (rs ++ [x]))) 171) := by
  subst hr
  have at1 : ∀ j (_ : j = rs.length), (rws encP (polP rs))[0 + j * 7 + 0]? = some (.bool false) := by rintro j rfl; rw [polP_get rs hn (by decide), if_neg (by omega)]; rfl
  refine calls_of_rx (args := [_, _, _]) (e := [(0, _), (1, _), (2, _)]) (n := 34) Tryz.func58 rfl rfl rfl (by kernel_rfl) rfl ?_
  have hC := Ch.refl (· = yp) w
  refine RX.seq ?_; refine RX.region ?_; refine RU.rd (V.as rfl) ?_; refine RU.nil ?_; refine RX.seq ?_; refine RX.seq ?_; refine RX.region ?_; refine RU.rd (V.mv rfl) ?_; refine RU.rd (V.lss rfl rfl) ?_
  refine RU.rd (V.mv rfl) ?_; refine RU.splitD (fun _ => by omega) fun h3 => ?_; refine RU.rdG rfl rfl (V.mv rfl) ?_; refine RU.rdG rfl rfl (V.geq rfl rfl) ?_; refine RU.rd (V.pickF rfl rfl) ?_; refine RU.rd (V.mv rfl) ?_
  refine RU.splitD (fun _ => by omega) fun h4 => ?_; refine RU.rdG rfl rfl (V.mv rfl) ?_; refine RU.loG rfl rfl (L.call fn81 rfl (c81) ?_); rintro _ w1 ⟨rfl, hq1⟩; rw [hq1]; clear hq1 w1
  refine RU.rdG rfl rfl (V.notD rfl) ?_; refine RU.rd (V.pickF rfl rfl) ?_; refine RU.nil ?_; refine RX.condD rfl (fun _ => by omega) fun h5 => ?_; refine RX.skip ?_; refine RX.seq ?_; refine RX.seq ?_; refine RX.region ?_
  refine RU.rd (V.mv rfl) ?_; refine RU.rd (V.nck rfl) ?_; refine RU.rd (V.fld0 f134_0 rfl) ?_; refine RU.rd (V.ld s131 rfl (cur hy) rfl) ?_; refine RU.rd (V.mv rfl) ?_; refine RU.rd (V.idx e131 rfl rfl (by omega)) ?_
  refine RU.rd (V.fld f171_0 rfl) ?_; refine RU.rd (V.ld s4 rfl (cur hp) (at1 _ (by omega))) ?_; refine RU.nil ?_; refine RX.condF rfl ?_; refine RX.skip ?_; refine RX.seq ?_; refine RX.region ?_; refine RU.rd (V.mv rfl) ?_
  refine RU.rd (V.nck rfl) ?_; refine RU.rd (V.fld0 f134_0 rfl) ?_; refine RU.rd (V.ld s131 rfl (cur hy) rfl) ?_; refine RU.rd (V.mv rfl) ?_; refine RU.rd (V.mv rfl) ?_; refine RU.rd (V.bld bf171 z171 rfl rfl) ?_
  refine RU.rd (V.idx e131 rfl rfl (by omega)) ?_
  have ln : (rws encP (polP rs)).length = 84 := by rw [rws_length encP_length, polP_len]
  have hs := rws_set0 encP_length [] (polP rs) rs.length 0 (by rw [polP_len]; exact hn) (encP (true, t, 1, 0)) (true, t, 1, 0) (by simp [encP]) rfl
  rw [← hx, polP_app rs x h1 h2] at hs
  simp only [List.append_nil, Nat.add_zero] at hs
  refine RU.lo0 (L.st hC sz171 rfl rfl rfl rfl hp (by rw [ln]; omega) (.inr rfl) fun w1 hC1 ch1 hz1 hB1 => ?_)
  refine RU.nil ?_; refine RX.seq ?_; refine RX.region ?_; refine RU.rd (V.as rfl) ?_; refine RU.nil ?_; refine RX.rt Tryz.func58 (by rfl) (ResOk.tmp rfl (ResOk.nil)) ?_
  exact ⟨rfl, hC1, by rw [← hs, hx]; exact hB1⟩
end Go.Proofs.YtmcfbinkofoagaaGreat
