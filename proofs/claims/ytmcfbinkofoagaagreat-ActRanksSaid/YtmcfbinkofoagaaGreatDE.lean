/- Only a track of rank may cancel, only one of the highest may kill. -/
import Derived.Test.YtmcfbinkofoagaaGreatDD
namespace Go.Proofs.YtmcfbinkofoagaaGreat
open Go Go.RowKit Sx Go.Proofs

/-- What the law's accounts and referenda begin with. -/
theorem begin_st (fr : List Int) (n : Nat) (h : n ≤ 5) : StOk (beginS fr n) := by
  obtain ⟨h1, h2, h3, h4⟩ := beginS_ok fr n
  exact ⟨h1, h2, h3, beginS_rs fr n h⟩
theorem rank_of {t : Int} (h : 0 ≤ t ∧ t ≤ 2) : (trAt theTracks t).rank = t := by
  obtain rfl | rfl | rfl : t = 0 ∨ t = 1 ∨ t = 2 := by omega
  all_goals rfl
theorem ref3_state {r : Int} (h : 0 ≤ r ∧ r ≤ 2) : (refAt (beginS [] 3).2 r).state = 1 := by
  obtain rfl | rfl | rfl : r = 0 ∨ r = 1 ∨ r = 2 := by omega
  all_goals rfl
theorem ranks_one {t ref k : Int} {s : St} (ht : 0 ≤ t ∧ t ≤ 2) (hr : 0 ≤ ref ∧ ref ≤ 4) (hk : k = 3 ∨ k = 4) : doS t 9 (.mk k 0 ref []) s =
    if k = 3 then (if t < 1 then (s, [], 8) else canS 9 ref s) else if t < 2 then (s, [], 8) else kilS 9 ref s := by
  unfold doS
  rw [if_pos ⟨by omega, by rcases hk with rfl | rfl <;> simp [Cal.isB] <;> omega⟩, rank_of ht]
  rcases hk with rfl | rfl <;> simp [Cal.run]
/-- What comes of the law's act, and of the same anew. -/
theorem ranks_key {t ref k need : Int} {s : St} (ht : 0 ≤ t ∧ t ≤ 2) (hr : 0 ≤ ref ∧ ref ≤ 4) (hk : k = 3 ∧ need = 1 ∨ k = 4 ∧ need = 2) (hl : s.2.length = 3) (hs : ∀ r : Int, 0 ≤ r ∧ r ≤ 2 → (refAt s.2 r).state = 1) :
    (t < need ∧ (doS t 9 (.mk k 0 ref []) s).2.2 = 8 ∧ (doS t 9 (.mk k 0 ref []) s).2.1 = [] ∧ (ref ≤ 2 → (refAt (doS t 9 (.mk k 0 ref []) s).1.2 ref).state = 1)) ∨
    (¬ t < need ∧ 2 < ref ∧ (doS t 9 (.mk k 0 ref []) s).2.2 = 4 ∧ (doS t 9 (.mk k 0 ref []) s).2.1 = []) ∨
    (¬ t < need ∧ ¬ 2 < ref ∧ (doS t 9 (.mk k 0 ref []) s).2.2 = 0 ∧ 1 ≤ (doS t 9 (.mk k 0 ref []) s).2.1.length ∧ (refAt (doS t 9 (.mk k 0 ref []) s).1.2 ref).state ≠ 1 ∧ (refAt (doS t 9 (.mk k 0 ref []) s).1.2 ref).fin = 9 ∧
      (doS t 9 (.mk k 0 ref []) (doS t 9 (.mk k 0 ref []) s).1).2.2 = 9) := by
  have hk' : k = 3 ∨ k = 4 := by omega
  have ho4 : 2 < ref → ongE s.2 ref = 4 := fun h => by unfold ongE; rw [if_pos (by rw [hl]; omega)]
  have ho0 : ¬ 2 < ref → ongE s.2 ref = 0 := fun h => by unfold ongE; rw [if_neg (by rw [hl]; omega), if_neg (by simp [hs ref (by omega)])]
  have ho9 : ∀ y : Rfd, y.state ≠ 1 → ¬ 2 < ref → ongE (s.2.set ref.toNat y) ref = 9 := fun y hy h => by
    unfold ongE; rw [if_neg (by rw [List.length_set, hl]; omega), refAt_set (by rw [hl]; omega), if_pos hy]
  have hin : ¬ 2 < ref → 0 ≤ ref ∧ ref < (s.2.length : Int) := fun h => by rw [hl]; omega
  rw [ranks_one ht hr hk', ranks_one ht hr hk']
  rcases hk with ⟨rfl, rfl⟩ | ⟨rfl, rfl⟩
  · rw [if_pos rfl]
    by_cases h1 : t < 1
    · rw [if_pos h1]; exact .inl ⟨h1, rfl, rfl, fun h => hs ref (by omega)⟩
    · rw [if_neg h1, if_pos rfl, if_neg h1]
      by_cases h2 : 2 < ref
      · exact .inr (.inl ⟨h1, h2, ho4 h2, by simp [canS, ho4 h2]⟩)
      · refine .inr (.inr ⟨h1, h2, ho0 h2, by simp [canS, ho0 h2], ?_⟩)
        have e1 : (canS 9 ref s).1.2 = s.2.set ref.toNat (endR (refAt s.2 ref) 5 9) := by simp [canS, canR, ho0 h2]
        have e2 : ∀ s', (canS 9 ref s').2.2 = ongE s'.2 ref := fun _ => rfl
        rw [e2, e1, refAt_set (hin h2)]
        exact ⟨by show (5 : Int) ≠ 1; decide, rfl, ho9 _ (by show (5 : Int) ≠ 1; decide) h2⟩
  · rw [if_neg (by decide)]
    by_cases h1 : t < 2
    · rw [if_pos h1]; exact .inl ⟨h1, rfl, rfl, fun h => hs ref (by omega)⟩
    · rw [if_neg h1, if_neg (by decide), if_neg h1]
      by_cases h2 : 2 < ref
      · exact .inr (.inl ⟨h1, h2, ho4 h2, by simp [kilS, ho4 h2]⟩)
      · refine .inr (.inr ⟨h1, h2, ho0 h2, by simp [kilS, ho0 h2], ?_⟩)
        have e1 : (kilS 9 ref s).1.2 = s.2.set ref.toNat (killR (refAt s.2 ref) 9) := by simp [kilS, ho0 h2]
        have e2 : ∀ s', (kilS 9 ref s').2.2 = ongE s'.2 ref := fun _ => rfl
        rw [e2, e1, refAt_set (hin h2)]
        exact ⟨by show (6 : Int) ≠ 1; decide, rfl, ho9 _ (by show (6 : Int) ≠ 1; decide) h2⟩
set_option maxHeartbeats 2000000 in
theorem c3 {t ref : Int} {kill : Bool} {w : World} : Calls Tryz.prog 3 #[.int .i64 t, .bool kill, .int .i64 ref] w (Ret fun v w' => v = .bool true ∧ Grow w w') := by
  refine calls_of_rx (args := [_, _, _]) (e := [(0, _), (1, _), (2, _)]) (n := 140) Tryz.func3 rfl rfl rfl (by kernel_rfl) rfl ?_
  have hC := Ch.refl Nil w
  have uq := True.intro
  by_cases hg : t < 0 ∨ 2 < t ∨ ref < 0 ∨ 4 < ref
  · refine RX.seq ?_; refine RX.region ?_; refine RU.rd (V.as rfl) ?_; refine RU.nil ?_; refine RX.seq ?_; refine RX.seq ?_; refine RX.region ?_; refine RU.rd (V.mv rfl) ?_; refine RU.rd (V.lss rfl rfl) ?_
    refine RU.rd (V.mv rfl) ?_; refine RU.splitD (fun h1 => ?_) fun h1 => ?_
    · refine RU.sk rfl rfl rfl ?_; refine RU.sk rfl rfl rfl ?_; refine RU.rd (V.pickT rfl rfl) ?_; refine RU.rd (V.mv rfl) ?_; refine RU.sk rfl rfl rfl ?_; refine RU.sk rfl rfl rfl ?_; refine RU.rd (V.pickT rfl rfl) ?_
      refine RU.rd (V.mv rfl) ?_; refine RU.sk rfl rfl rfl ?_; refine RU.sk rfl rfl rfl ?_; refine RU.rd (V.pickT rfl rfl) ?_; refine RU.nil ?_; refine RX.condT rfl ?_; refine RX.seq ?_; refine RX.region ?_
      refine RU.rd (V.as rfl) ?_; refine RU.nil ?_; refine RX.rt Tryz.func3 (by rfl) (ResOk.tmp rfl (ResOk.nil)) ?_; exact ⟨rfl, by assumption⟩
    · refine RU.rdG rfl rfl (V.mv rfl) ?_; refine RU.rdG rfl rfl (V.gtr rfl rfl) ?_; refine RU.rd (V.pickF rfl rfl) ?_; refine RU.rd (V.mv rfl) ?_; refine RU.splitD (fun h2 => ?_) fun h2 => ?_
      · refine RU.sk rfl rfl rfl ?_; refine RU.sk rfl rfl rfl ?_; refine RU.rd (V.pickT rfl rfl) ?_; refine RU.rd (V.mv rfl) ?_; refine RU.sk rfl rfl rfl ?_; refine RU.sk rfl rfl rfl ?_; refine RU.rd (V.pickT rfl rfl) ?_
        refine RU.nil ?_; refine RX.condT rfl ?_; refine RX.seq ?_; refine RX.region ?_; refine RU.rd (V.as rfl) ?_; refine RU.nil ?_; refine RX.rt Tryz.func3 (by rfl) (ResOk.tmp rfl (ResOk.nil)) ?_
        exact ⟨rfl, by assumption⟩
      · refine RU.rdG rfl rfl (V.mv rfl) ?_; refine RU.rdG rfl rfl (V.lss rfl rfl) ?_; refine RU.rd (V.pickF rfl rfl) ?_; refine RU.rd (V.mv rfl) ?_; refine RU.splitD (fun h3 => ?_) fun h3 => ?_
        · refine RU.sk rfl rfl rfl ?_; refine RU.sk rfl rfl rfl ?_; refine RU.rd (V.pickT rfl rfl) ?_; refine RU.nil ?_; refine RX.condT rfl ?_; refine RX.seq ?_; refine RX.region ?_; refine RU.rd (V.as rfl) ?_
          refine RU.nil ?_; refine RX.rt Tryz.func3 (by rfl) (ResOk.tmp rfl (ResOk.nil)) ?_; exact ⟨rfl, by assumption⟩
        · refine RU.rdG rfl rfl (V.mv rfl) ?_; refine RU.rdG rfl rfl (V.gtr rfl rfl) ?_; refine RU.rd (V.pickF rfl rfl) ?_; refine RU.nil ?_; refine RX.condD rfl (fun h4 => ?_) (fun _ => by omega); refine RX.seq ?_
          refine RX.region ?_; refine RU.rd (V.as rfl) ?_; refine RU.nil ?_; refine RX.rt Tryz.func3 (by rfl) (ResOk.tmp rfl (ResOk.nil)) ?_; exact ⟨rfl, by assumption⟩
  have g1 : 0 ≤ t ∧ t ≤ 2 ∧ 0 ≤ ref ∧ ref ≤ 4 := by omega
  clear hg
  refine RX.seq ?_; refine RX.region ?_; refine RU.rd (V.as rfl) ?_; refine RU.nil ?_; refine RX.seq ?_; refine RX.seq ?_; refine RX.region ?_; refine RU.rd (V.mv rfl) ?_; refine RU.rd (V.lss rfl rfl) ?_
  refine RU.rd (V.mv rfl) ?_; refine RU.splitD (fun _ => by omega) fun h1 => ?_; refine RU.rdG rfl rfl (V.mv rfl) ?_; refine RU.rdG rfl rfl (V.gtr rfl rfl) ?_; refine RU.rd (V.pickF rfl rfl) ?_; refine RU.rd (V.mv rfl) ?_
  refine RU.splitD (fun _ => by omega) fun h2 => ?_; refine RU.rdG rfl rfl (V.mv rfl) ?_; refine RU.rdG rfl rfl (V.lss rfl rfl) ?_; refine RU.rd (V.pickF rfl rfl) ?_; refine RU.rd (V.mv rfl) ?_
  refine RU.splitD (fun _ => by omega) fun h3 => ?_; refine RU.rdG rfl rfl (V.mv rfl) ?_; refine RU.rdG rfl rfl (V.gtr rfl rfl) ?_; refine RU.rd (V.pickF rfl rfl) ?_; refine RU.nil ?_
  refine RX.condD rfl (fun _ => by omega) fun h4 => ?_; refine RX.skip ?_; refine RX.seq ?_; refine RX.region ?_
  refine RU.lo (L.call fn9 rfl (c9g (fr := []) (w := w) (v := .slice none 0 0) (refs := 3) .nil) ?_)
  rintro _ w1 ⟨B, pk, gv, zv, rfl, gr1, F1, B1⟩
  have en : nOf 3 = 3 := rfl
  rw [en] at F1 B1
  have S0 := begin_st [] 3 (by decide)
  have L0 := (beginS_ok [] 3).2.2.2
  have hs0 := fun r hr => @ref3_state r hr
  obtain ⟨s0, e0⟩ : ∃ s, beginS [] 3 = s := ⟨_, rfl⟩
  rw [e0] at B1 S0 L0 hs0
  clear e0 en
  have hC1 := hC.trans gr1
  have hp := B1.hp
  refine RU.rd (V.as rfl) ?_; refine RU.nil ?_; refine RX.seq ?_; refine RX.seq ?_; refine RX.region ?_; refine RU.rd (V.mv rfl) ?_; refine RU.rd (V.eqNil u22 rfl rfl) ?_; refine RU.nil ?_; refine RX.condF rfl ?_
  refine RX.skip ?_; refine RX.seq ?_; refine RX.region ?_; refine RU.rd (V.mv rfl) ?_; refine RU.rd (V.bld bf26 z26 rfl rfl) ?_; have l2_hp := hp.lt; refine RU.lo (L.al hC1 z26 fun b2 w2 hb2 le2 hC2 gr2 hz2 hB2 => ?_)
  have hp := hp.gr gr2; refine RU.lo0 (L.stN hC2 sz26 rfl rfl rfl rfl hB2 rfl le2 fun w3 hC3 ch3 hz3 hB2 => ?_); have hp := hp.ch ch3 (by omega); refine RU.nil ?_; refine RX.seq ?_; refine RX.region ?_
  refine RU.rd (V.as rfl) ?_; refine RU.nil ?_; refine RX.seq ?_; refine RX.seq ?_; refine RX.region ?_; refine RU.rd (V.mv rfl) ?_; refine RU.nil ?_; refine RX.cond rfl (fun h5 => ?_) fun h5 => ?_
  · refine RX.region ?_; refine RU.rd (V.fld0 f26_0 rfl) ?_; refine RU.lo0 (L.stN hC3 sz3 rfl rfl rfl rfl hB2 rfl le2 fun w4 hC4 ch4 hz4 hB2 => ?_); have hp := hp.ch ch4 (by omega); refine RU.rd (V.as rfl) ?_
    refine RU.nil ?_; refine RX.seq ?_
    refine RX.draw (Ch Nil w4) [3, 7, 11, 12] [(0, true), (1, true), (2, true), (3, true), (4, true), (5, true), (6, true), (7, true), (8, true), (9, true), (10, true), (11, true), (12, true), (13, true), (14, false), (15, true), (16, true), (17, true), (18, true), (19, true)] mixed (by kernel_rfl) fun w5 gr5 hz5 => ?_
    have hC5 := hC4.trans (Ch.of_grow gr5); have hB2d5 := hB2.gr gr5; have hpd5 := hp.gr gr5; refine RD.rz rfl (V.mv rfl) ?_; refine RD.rz rfl (V.nck rfl) ?_; refine RD.rz rfl (V.fld0 f38_0 rfl) ?_
    refine RD.rd rfl rfl gr5 (V.ld s31 rfl (fun _ hS => hp.gr hS) rfl) ?_; refine RD.rz rfl (V.mv rfl) ?_; refine RD.rz rfl (V.nck rfl) ?_; refine RD.rz rfl (V.fld0 f38_1 rfl) ?_
    refine RD.rd rfl rfl gr5 (V.ld s32 rfl (fun _ hS => hp.gr hS) rfl) ?_; refine RD.rz rfl (V.mv rfl) ?_; refine RD.rz rfl (V.nck rfl) ?_; refine RD.rz rfl (V.fld0 f38_2 rfl) ?_
    refine RD.rd rfl rfl gr5 (V.ld s33 rfl (fun _ hS => hp.gr hS) rfl) ?_; refine RD.rd rfl rfl gr5 (V.ldA a26 rfl (fun _ hS => hB2.gr hS) (vs := [_, _, _, _]) rfl rfl) ?_; refine RD.rz rfl (V.mv rfl) ?_
    have G1 : Grow w1 w5 := ((gr2.trans' ch3 (by rintro b hb rfl; omega)).trans' ch4 (by rintro b hb rfl; omega)).trans gr5
    have BW := B1.gr G1
    have hz0 := G1.size
    refine RD.lf rfl (by kernel_rfl) (L.call fn10 rfl (c10g (s := s0) (of := t) (now := 9) (c := .mk 4 0 ref []) BW.hq S0 CalR.nil (by simp [Cal.sz, Cal.szL])) ?_)
    rintro _ wA ⟨sl, gvA, rfl, hOA, chA, hQA, -⟩
    have key := ranks_key (t := t) (ref := ref) (k := 4) (need := 2) (s := s0) (by omega) (by omega) (.inr ⟨rfl, rfl⟩) L0 hs0
    have SA := doS_ok (of := t) (now := 9) (c := .mk 4 0 ref []) S0
    obtain ⟨⟨s1, ev, e1⟩, er⟩ : ∃ r, doS t 9 (.mk 4 0 ref []) s0 = r := ⟨_, rfl⟩
    rw [er] at hOA hQA key SA ⊢
    dsimp only at hOA hQA key SA ⊢
    clear er
    rw [L0] at chA
    have hfo : ∀ b, B.q.chg pk 3 b → B.foot pk gv zv 3 b := fun b hs => .inr (.inl (QG.chg_foot hs))
    have hlo : ∀ b, B.q.chg pk 3 b → w.heap.size ≤ b ∧ b < w1.heap.size := fun b hs => ⟨F1 b (hfo b hs), B1.lt b (by rw [L0]; exact hfo b hs)⟩
    have hCA : Grow w wA := hC5.trans' chA (fun b hb hs => by have := hlo b hs; omega)
    obtain ⟨pa, ca, rfl⟩ := Own.evs hOA
    have hpA := BW.hp.ch chA (fun hb => BW.dp (by rw [L0]; exact QG.chg_foot hb))
    have L1 := SA.2.1.trans L0
    have hcall : Blk w5 b2 [.int .i64 4, .int .i64 0, .int .i64 ref, .slice none 0 0] 26 := by assumption
    have hcallA := hcall.ch chA (fun hs => by have := hlo _ hs; omega)
    have hrA := hQA.hr
    have hgA := hQA.hg
    clear hp hpd5
    refine RD.rz rfl (V.mv rfl) ?_; refine RD.rz rfl (V.ext rfl rfl) ?_; refine RD.rz rfl (V.ext rfl rfl) ?_; refine RD.rz rfl (V.as rfl) ?_; refine RD.rz rfl (V.as rfl) ?_; refine RD.nil ?_; refine RX.seq ?_
    refine RX.region ?_; refine RU.rd (V.mv rfl) ?_; refine RU.rd (V.nck rfl) ?_; refine RU.rd (V.fld0 f38_2 rfl) ?_; refine RU.rd (V.ld s33 rfl (cur hpA) rfl) ?_; refine RU.rd (V.mv rfl) ?_
    refine RU.lo (L.call fn11 rfl (c11 hrA hgA ?_) ?_); omega; rintro _ w6 ⟨rfl, gr6⟩; have hC6 := hCA.trans (Ch.of_grow gr6); have hpA := hpA.gr gr6; have hcallA := hcallA.gr gr6; have hrA := hrA.gr gr6
    refine RU.rd (V.mv rfl) ?_; refine RU.rd (V.ext rfl rfl) ?_; refine RU.rd (V.ext rfl rfl) ?_; have l7_hpA := hpA.lt; have l7_hcallA := hcallA.lt; have l7_hrA := hrA.lt
    refine RU.lo (L.al hC6 z44 fun b7 w7 hb7 le7 hC7 gr7 hz7 hB7 => ?_); have hpA := hpA.gr gr7; have hcallA := hcallA.gr gr7; have hrA := hrA.gr gr7
    refine RU.lo0 (L.stN hC7 sz44 rfl rfl rfl rfl hB7 rfl le7 fun w8 hC8 ch8 hz8 hB7 => ?_); have hpA := hpA.ch ch8 (by omega); have hcallA := hcallA.ch ch8 (by omega); have hrA := hrA.ch ch8 (by omega)
    refine RU.rd (V.as rfl) ?_; refine RU.nil ?_; refine RX.seq ?_; refine RX.seq ?_; refine RX.region ?_; refine RU.rd (V.mv rfl) ?_; refine RU.rd (V.mv rfl) ?_; refine RU.rd (V.lss rfl rfl) ?_; refine RU.nil ?_
    refine RX.condD rfl (fun h6 => ?_) fun h6 => ?_
    · rcases key with ⟨k1, rfl, rfl, k4⟩ | ⟨k1, -⟩ | ⟨k1, -⟩
      · by_cases hr2 : ref ≤ 2
        · have k5 := k4 hr2
          refine RX.seq ?_; refine RX.region ?_; refine RU.rd (V.mv rfl) ?_; refine RU.rd (V.eql rfl rfl) ?_; refine RU.rd (V.mv rfl) ?_; refine RU.splitD (fun h7 => ?_) (fun _ => by omega); refine RU.rdG rfl rfl (V.mv rfl) ?_
          refine RU.rdG rfl rfl (V.len u27 rfl) ?_; refine RU.rdG rfl rfl (V.eql rfl rfl) ?_; refine RU.rd (V.pickT rfl rfl) ?_; refine RU.rd (V.mv rfl) ?_; refine RU.splitD (fun h8 => ?_) (fun _ => by contradiction)
          refine RU.rdG rfl rfl (V.mv rfl) ?_; refine RU.rdG rfl rfl (V.notD rfl) ?_; refine RU.rdG rfl rfl (V.mv rfl) ?_; refine RU.splitD (fun _ => by omega) fun h9 => ?_; refine RU.rdG rfl rfl (V.fld0 f44_0 rfl) ?_
          refine RU.rdG rfl rfl (V.ld s3 rfl (cur hB7) rfl) ?_; refine RU.rdG rfl rfl (V.eql rfl rfl) ?_; refine RU.rdG rfl rfl (V.pickF rfl rfl) ?_; refine RU.rd (V.pickT rfl rfl) ?_; refine RU.rd (V.mv rfl) ?_
          refine RU.splitD (fun h10 => ?_) (fun _ => by omega); refine RU.loG rfl rfl (L.call fn12 rfl (c12) ?_); rintro _ w9 ⟨rfl, gr9⟩; have hC9 := hC8.trans (Ch.of_grow gr9); have hB7 := hB7.gr gr9; have hpA := hpA.gr gr9
          have hcallA := hcallA.gr gr9; have hrA := hrA.gr gr9; refine RU.rd (V.pickT rfl rfl) ?_; refine RU.rd (V.as rfl) ?_; refine RU.nil ?_; refine RX.rt Tryz.func3 (by rfl) (ResOk.tmp rfl (ResOk.nil)) ?_
          exact ⟨rfl, by assumption⟩
        · refine RX.seq ?_; refine RX.region ?_; refine RU.rd (V.mv rfl) ?_; refine RU.rd (V.eql rfl rfl) ?_; refine RU.rd (V.mv rfl) ?_; refine RU.splitD (fun h7 => ?_) (fun _ => by omega); refine RU.rdG rfl rfl (V.mv rfl) ?_
          refine RU.rdG rfl rfl (V.len u27 rfl) ?_; refine RU.rdG rfl rfl (V.eql rfl rfl) ?_; refine RU.rd (V.pickT rfl rfl) ?_; refine RU.rd (V.mv rfl) ?_; refine RU.splitD (fun h8 => ?_) (fun _ => by contradiction)
          refine RU.rdG rfl rfl (V.mv rfl) ?_; refine RU.rdG rfl rfl (V.notD rfl) ?_; refine RU.rdG rfl rfl (V.mv rfl) ?_; refine RU.splitD (fun h9 => ?_) (fun _ => by omega); refine RU.sk rfl rfl rfl ?_
          refine RU.sk rfl rfl rfl ?_; refine RU.sk rfl rfl rfl ?_; refine RU.rdG rfl rfl (V.pickT rfl rfl) ?_; refine RU.rd (V.pickT rfl rfl) ?_; refine RU.rd (V.mv rfl) ?_; refine RU.loG rfl rfl (L.call fn12 rfl (c12) ?_)
          rintro _ w9 ⟨rfl, gr9⟩; have hC9 := hC8.trans (Ch.of_grow gr9); have hB7 := hB7.gr gr9; have hpA := hpA.gr gr9; have hcallA := hcallA.gr gr9; have hrA := hrA.gr gr9; refine RU.rd (V.pickT rfl rfl) ?_
          refine RU.rd (V.as rfl) ?_; refine RU.nil ?_; refine RX.rt Tryz.func3 (by rfl) (ResOk.tmp rfl (ResOk.nil)) ?_
          exact ⟨rfl, by assumption⟩
      · exact absurd ‹t < 2› k1
      · exact absurd ‹t < 2› k1
    · rcases key with ⟨k1, -⟩ | ⟨-, k2, rfl, rfl⟩ | ⟨-, k2, rfl, k4, k5, k6, k7⟩
      · exact absurd k1 ‹¬ t < 2›
      · refine RX.skip ?_; refine RX.seq ?_; refine RX.seq ?_; refine RX.region ?_; refine RU.rd (V.mv rfl) ?_; refine RU.rd (V.gtr rfl rfl) ?_; refine RU.nil ?_; refine RX.condD rfl (fun h7 => ?_) (fun _ => by omega)
        refine RX.seq ?_; refine RX.region ?_; refine RU.rd (V.mv rfl) ?_; refine RU.rd (V.eql rfl rfl) ?_; refine RU.rd (V.mv rfl) ?_; refine RU.splitD (fun h8 => ?_) (fun _ => by omega); refine RU.rdG rfl rfl (V.mv rfl) ?_
        refine RU.rdG rfl rfl (V.len u27 rfl) ?_; refine RU.rdG rfl rfl (V.eql rfl rfl) ?_; refine RU.rd (V.pickT rfl rfl) ?_; refine RU.rd (V.mv rfl) ?_; refine RU.splitD (fun h9 => ?_) (fun _ => by contradiction)
        refine RU.loG rfl rfl (L.call fn12 rfl (c12) ?_); rintro _ w9 ⟨rfl, gr9⟩; have hC9 := hC8.trans (Ch.of_grow gr9); have hB7 := hB7.gr gr9; have hpA := hpA.gr gr9; have hcallA := hcallA.gr gr9; have hrA := hrA.gr gr9
        refine RU.rd (V.pickT rfl rfl) ?_; refine RU.rd (V.as rfl) ?_; refine RU.nil ?_; refine RX.rt Tryz.func3 (by rfl) (ResOk.tmp rfl (ResOk.nil)) ?_
        exact ⟨rfl, by assumption⟩
      · refine RX.skip ?_; refine RX.seq ?_; refine RX.seq ?_; refine RX.region ?_; refine RU.rd (V.mv rfl) ?_; refine RU.rd (V.gtr rfl rfl) ?_; refine RU.nil ?_; refine RX.condD rfl (fun _ => by omega) fun h7 => ?_
        refine RX.skip ?_; refine RX.seq ?_
        refine RX.draw (Ch Nil w8) [3, 7, 11, 12] [(0, true), (1, true), (2, true), (3, true), (4, true), (5, true), (6, true), (7, true), (8, true), (9, true), (10, true), (11, true), (12, true), (13, true), (14, false), (15, true), (16, true), (17, true), (18, true), (19, true)] mixed (by kernel_rfl) fun w9 gr9 hz9 => ?_
        have hC9 := hC8.trans (Ch.of_grow gr9); have hB7d9 := hB7.gr gr9; have hpAd9 := hpA.gr gr9; have hcallAd9 := hcallA.gr gr9; have hrAd9 := hrA.gr gr9; refine RD.rz rfl (V.mv rfl) ?_; refine RD.rz rfl (V.nck rfl) ?_
        refine RD.rz rfl (V.fld0 f38_0 rfl) ?_; refine RD.rd rfl rfl gr9 (V.ld s31 rfl (fun _ hS => hpA.gr hS) rfl) ?_; refine RD.rz rfl (V.mv rfl) ?_; refine RD.rz rfl (V.nck rfl) ?_; refine RD.rz rfl (V.fld0 f38_1 rfl) ?_
        refine RD.rd rfl rfl gr9 (V.ld s32 rfl (fun _ hS => hpA.gr hS) rfl) ?_; refine RD.rz rfl (V.mv rfl) ?_; refine RD.rz rfl (V.nck rfl) ?_; refine RD.rz rfl (V.fld0 f38_2 rfl) ?_
        refine RD.rd rfl rfl gr9 (V.ld s33 rfl (fun _ hS => hpA.gr hS) rfl) ?_; refine RD.rd rfl rfl gr9 (V.ldA a26 rfl (fun _ hS => hcallA.gr hS) (vs := [_, _, _, _]) rfl rfl) ?_; refine RD.rz rfl (V.mv rfl) ?_
        have yA := gr6.size
        have GA : Grow wA w9 := ((gr6.trans gr7).trans' ch8 (by rintro b hb rfl; omega)).trans gr9
        refine RD.lf rfl (by kernel_rfl) (L.call fn10 rfl (c10g (s := s1) (of := t) (now := 9) (c := .mk 4 0 ref []) (hQA.gr GA) SA.1 CalR.nil (by simp [Cal.sz, Cal.szL])) ?_)
        rintro _ wF ⟨sl2, gvF, rfl, -, chF, -, -⟩
        rw [k7]
        rw [L1] at chF
        have hCF : Grow w wF := hC9.trans' chF (fun b hb hs => by have := hlo b hs; omega)
        have hBF := hB7d9.ch chF (fun hs => by have := hlo _ hs; omega)
        refine RD.rz rfl (V.mv rfl) ?_; refine RD.rz rfl (V.ext rfl rfl) ?_; refine RD.rz rfl (V.ext rfl rfl) ?_; refine RD.rz rfl (V.as rfl) ?_; refine RD.rz rfl (V.as rfl) ?_; refine RD.nil ?_; refine RX.seq ?_
        refine RX.region ?_; refine RU.rd (V.mv rfl) ?_; refine RU.rd (V.eql rfl rfl) ?_; refine RU.rd (V.mv rfl) ?_; refine RU.splitD (fun h8 => ?_) (fun _ => by omega); refine RU.rdG rfl rfl (V.mv rfl) ?_
        refine RU.rdG rfl rfl (V.len u27 rfl) ?_; refine RU.rdG rfl rfl (V.geq rfl rfl) ?_; refine RU.rd (V.pickT rfl rfl) ?_; refine RU.rd (V.mv rfl) ?_; refine RU.splitD (fun h9 => ?_) (fun _ => by omega)
        refine RU.rdG rfl rfl (V.fld0 f44_0 rfl) ?_; refine RU.rdG rfl rfl (V.ld s3 rfl (cur hBF) rfl) ?_; refine RU.rdG rfl rfl (V.neq rfl rfl) ?_; refine RU.rd (V.pickT rfl rfl) ?_; refine RU.rd (V.mv rfl) ?_
        refine RU.splitD (fun h10 => ?_) (fun _ => by omega); refine RU.rdG rfl rfl (V.fld0 f44_10 rfl) ?_; refine RU.rdG rfl rfl (V.ld s3 rfl (cur hBF) rfl) ?_; refine RU.rdG rfl rfl (V.eql rfl rfl) ?_
        refine RU.rd (V.pickT rfl rfl) ?_; refine RU.rd (V.mv rfl) ?_; refine RU.splitD (fun h11 => ?_) (fun _ => by omega); refine RU.rdG rfl rfl (V.mv rfl) ?_; refine RU.rdG rfl rfl (V.eql rfl rfl) ?_
        refine RU.rd (V.pickT rfl rfl) ?_; refine RU.rd (V.mv rfl) ?_; refine RU.splitD (fun h12 => ?_) (fun _ => by omega); refine RU.loG rfl rfl (L.call fn12 rfl (c12) ?_); rintro _ w10 ⟨rfl, gr10⟩
        have hC10 := hCF.trans (Ch.of_grow gr10); have hBF := hBF.gr gr10; refine RU.rd (V.pickT rfl rfl) ?_; refine RU.rd (V.as rfl) ?_; refine RU.nil ?_; refine RX.rt Tryz.func3 (by rfl) (ResOk.tmp rfl (ResOk.nil)) ?_
        exact ⟨rfl, by assumption⟩
  · refine RX.skip ?_; refine RX.seq ?_
    refine RX.draw (Ch Nil w3) [3, 7, 11, 12] [(0, true), (1, true), (2, true), (3, true), (4, true), (5, true), (6, true), (7, true), (8, true), (9, true), (10, true), (11, true), (12, true), (13, true), (14, false), (15, true), (16, true), (17, true), (18, true), (19, true)] mixed (by kernel_rfl) fun w4 gr4 hz4 => ?_
    have hC4 := hC3.trans (Ch.of_grow gr4); have hB2d4 := hB2.gr gr4; have hpd4 := hp.gr gr4; refine RD.rz rfl (V.mv rfl) ?_; refine RD.rz rfl (V.nck rfl) ?_; refine RD.rz rfl (V.fld0 f38_0 rfl) ?_
    refine RD.rd rfl rfl gr4 (V.ld s31 rfl (fun _ hS => hp.gr hS) rfl) ?_; refine RD.rz rfl (V.mv rfl) ?_; refine RD.rz rfl (V.nck rfl) ?_; refine RD.rz rfl (V.fld0 f38_1 rfl) ?_
    refine RD.rd rfl rfl gr4 (V.ld s32 rfl (fun _ hS => hp.gr hS) rfl) ?_; refine RD.rz rfl (V.mv rfl) ?_; refine RD.rz rfl (V.nck rfl) ?_; refine RD.rz rfl (V.fld0 f38_2 rfl) ?_
    refine RD.rd rfl rfl gr4 (V.ld s33 rfl (fun _ hS => hp.gr hS) rfl) ?_; refine RD.rd rfl rfl gr4 (V.ldA a26 rfl (fun _ hS => hB2.gr hS) (vs := [_, _, _, _]) rfl rfl) ?_; refine RD.rz rfl (V.mv rfl) ?_
    have G1 : Grow w1 w4 := (gr2.trans' ch3 (by rintro b hb rfl; omega)).trans gr4
    have BW := B1.gr G1
    have hz0 := G1.size
    refine RD.lf rfl (by kernel_rfl) (L.call fn10 rfl (c10g (s := s0) (of := t) (now := 9) (c := .mk 3 0 ref []) BW.hq S0 CalR.nil (by simp [Cal.sz, Cal.szL])) ?_)
    rintro _ wA ⟨sl, gvA, rfl, hOA, chA, hQA, -⟩
    have key := ranks_key (t := t) (ref := ref) (k := 3) (need := 1) (s := s0) (by omega) (by omega) (.inl ⟨rfl, rfl⟩) L0 hs0
    have SA := doS_ok (of := t) (now := 9) (c := .mk 3 0 ref []) S0
    obtain ⟨⟨s1, ev, e1⟩, er⟩ : ∃ r, doS t 9 (.mk 3 0 ref []) s0 = r := ⟨_, rfl⟩
    rw [er] at hOA hQA key SA ⊢
    dsimp only at hOA hQA key SA ⊢
    clear er
    rw [L0] at chA
    have hfo : ∀ b, B.q.chg pk 3 b → B.foot pk gv zv 3 b := fun b hs => .inr (.inl (QG.chg_foot hs))
    have hlo : ∀ b, B.q.chg pk 3 b → w.heap.size ≤ b ∧ b < w1.heap.size := fun b hs => ⟨F1 b (hfo b hs), B1.lt b (by rw [L0]; exact hfo b hs)⟩
    have hCA : Grow w wA := hC4.trans' chA (fun b hb hs => by have := hlo b hs; omega)
    obtain ⟨pa, ca, rfl⟩ := Own.evs hOA
    have hpA := BW.hp.ch chA (fun hb => BW.dp (by rw [L0]; exact QG.chg_foot hb))
    have L1 := SA.2.1.trans L0
    have hcall : Blk w4 b2 [.int .i64 3, .int .i64 0, .int .i64 ref, .slice none 0 0] 26 := by assumption
    have hcallA := hcall.ch chA (fun hs => by have := hlo _ hs; omega)
    have hrA := hQA.hr
    have hgA := hQA.hg
    clear hp hpd4
    refine RD.rz rfl (V.mv rfl) ?_; refine RD.rz rfl (V.ext rfl rfl) ?_; refine RD.rz rfl (V.ext rfl rfl) ?_; refine RD.rz rfl (V.as rfl) ?_; refine RD.rz rfl (V.as rfl) ?_; refine RD.nil ?_; refine RX.seq ?_
    refine RX.region ?_; refine RU.rd (V.mv rfl) ?_; refine RU.rd (V.nck rfl) ?_; refine RU.rd (V.fld0 f38_2 rfl) ?_; refine RU.rd (V.ld s33 rfl (cur hpA) rfl) ?_; refine RU.rd (V.mv rfl) ?_
    refine RU.lo (L.call fn11 rfl (c11 hrA hgA ?_) ?_); omega; rintro _ w5 ⟨rfl, gr5⟩; have hC5 := hCA.trans (Ch.of_grow gr5); have hpA := hpA.gr gr5; have hcallA := hcallA.gr gr5; have hrA := hrA.gr gr5
    refine RU.rd (V.mv rfl) ?_; refine RU.rd (V.ext rfl rfl) ?_; refine RU.rd (V.ext rfl rfl) ?_; have l6_hpA := hpA.lt; have l6_hcallA := hcallA.lt; have l6_hrA := hrA.lt
    refine RU.lo (L.al hC5 z44 fun b6 w6 hb6 le6 hC6 gr6 hz6 hB6 => ?_); have hpA := hpA.gr gr6; have hcallA := hcallA.gr gr6; have hrA := hrA.gr gr6
    refine RU.lo0 (L.stN hC6 sz44 rfl rfl rfl rfl hB6 rfl le6 fun w7 hC7 ch7 hz7 hB6 => ?_); have hpA := hpA.ch ch7 (by omega); have hcallA := hcallA.ch ch7 (by omega); have hrA := hrA.ch ch7 (by omega)
    refine RU.rd (V.as rfl) ?_; refine RU.nil ?_; refine RX.seq ?_; refine RX.seq ?_; refine RX.region ?_; refine RU.rd (V.mv rfl) ?_; refine RU.rd (V.mv rfl) ?_; refine RU.rd (V.lss rfl rfl) ?_; refine RU.nil ?_
    refine RX.condD rfl (fun h6 => ?_) fun h6 => ?_
    · rcases key with ⟨k1, rfl, rfl, k4⟩ | ⟨k1, -⟩ | ⟨k1, -⟩
      · by_cases hr2 : ref ≤ 2
        · have k5 := k4 hr2
          refine RX.seq ?_; refine RX.region ?_; refine RU.rd (V.mv rfl) ?_; refine RU.rd (V.eql rfl rfl) ?_; refine RU.rd (V.mv rfl) ?_; refine RU.splitD (fun h7 => ?_) (fun _ => by omega); refine RU.rdG rfl rfl (V.mv rfl) ?_
          refine RU.rdG rfl rfl (V.len u27 rfl) ?_; refine RU.rdG rfl rfl (V.eql rfl rfl) ?_; refine RU.rd (V.pickT rfl rfl) ?_; refine RU.rd (V.mv rfl) ?_; refine RU.splitD (fun h8 => ?_) (fun _ => by contradiction)
          refine RU.rdG rfl rfl (V.mv rfl) ?_; refine RU.rdG rfl rfl (V.notD rfl) ?_; refine RU.rdG rfl rfl (V.mv rfl) ?_; refine RU.splitD (fun _ => by omega) fun h9 => ?_; refine RU.rdG rfl rfl (V.fld0 f44_0 rfl) ?_
          refine RU.rdG rfl rfl (V.ld s3 rfl (cur hB6) rfl) ?_; refine RU.rdG rfl rfl (V.eql rfl rfl) ?_; refine RU.rdG rfl rfl (V.pickF rfl rfl) ?_; refine RU.rd (V.pickT rfl rfl) ?_; refine RU.rd (V.mv rfl) ?_
          refine RU.splitD (fun h10 => ?_) (fun _ => by omega); refine RU.loG rfl rfl (L.call fn12 rfl (c12) ?_); rintro _ w8 ⟨rfl, gr8⟩; have hC8 := hC7.trans (Ch.of_grow gr8); have hB6 := hB6.gr gr8; have hpA := hpA.gr gr8
          have hcallA := hcallA.gr gr8; have hrA := hrA.gr gr8; refine RU.rd (V.pickT rfl rfl) ?_; refine RU.rd (V.as rfl) ?_; refine RU.nil ?_; refine RX.rt Tryz.func3 (by rfl) (ResOk.tmp rfl (ResOk.nil)) ?_
          exact ⟨rfl, by assumption⟩
        · refine RX.seq ?_; refine RX.region ?_; refine RU.rd (V.mv rfl) ?_; refine RU.rd (V.eql rfl rfl) ?_; refine RU.rd (V.mv rfl) ?_; refine RU.splitD (fun h7 => ?_) (fun _ => by omega); refine RU.rdG rfl rfl (V.mv rfl) ?_
          refine RU.rdG rfl rfl (V.len u27 rfl) ?_; refine RU.rdG rfl rfl (V.eql rfl rfl) ?_; refine RU.rd (V.pickT rfl rfl) ?_; refine RU.rd (V.mv rfl) ?_; refine RU.splitD (fun h8 => ?_) (fun _ => by contradiction)
          refine RU.rdG rfl rfl (V.mv rfl) ?_; refine RU.rdG rfl rfl (V.notD rfl) ?_; refine RU.rdG rfl rfl (V.mv rfl) ?_; refine RU.splitD (fun h9 => ?_) (fun _ => by omega); refine RU.sk rfl rfl rfl ?_
          refine RU.sk rfl rfl rfl ?_; refine RU.sk rfl rfl rfl ?_; refine RU.rdG rfl rfl (V.pickT rfl rfl) ?_; refine RU.rd (V.pickT rfl rfl) ?_; refine RU.rd (V.mv rfl) ?_; refine RU.loG rfl rfl (L.call fn12 rfl (c12) ?_)
          rintro _ w8 ⟨rfl, gr8⟩; have hC8 := hC7.trans (Ch.of_grow gr8); have hB6 := hB6.gr gr8; have hpA := hpA.gr gr8; have hcallA := hcallA.gr gr8; have hrA := hrA.gr gr8; refine RU.rd (V.pickT rfl rfl) ?_
          refine RU.rd (V.as rfl) ?_; refine RU.nil ?_; refine RX.rt Tryz.func3 (by rfl) (ResOk.tmp rfl (ResOk.nil)) ?_
          exact ⟨rfl, by assumption⟩
      · exact absurd ‹t < 1› k1
      · exact absurd ‹t < 1› k1
    · rcases key with ⟨k1, -⟩ | ⟨-, k2, rfl, rfl⟩ | ⟨-, k2, rfl, k4, k5, k6, k7⟩
      · exact absurd k1 ‹¬ t < 1›
      · refine RX.skip ?_; refine RX.seq ?_; refine RX.seq ?_; refine RX.region ?_; refine RU.rd (V.mv rfl) ?_; refine RU.rd (V.gtr rfl rfl) ?_; refine RU.nil ?_; refine RX.condD rfl (fun h7 => ?_) (fun _ => by omega)
        refine RX.seq ?_; refine RX.region ?_; refine RU.rd (V.mv rfl) ?_; refine RU.rd (V.eql rfl rfl) ?_; refine RU.rd (V.mv rfl) ?_; refine RU.splitD (fun h8 => ?_) (fun _ => by omega); refine RU.rdG rfl rfl (V.mv rfl) ?_
        refine RU.rdG rfl rfl (V.len u27 rfl) ?_; refine RU.rdG rfl rfl (V.eql rfl rfl) ?_; refine RU.rd (V.pickT rfl rfl) ?_; refine RU.rd (V.mv rfl) ?_; refine RU.splitD (fun h9 => ?_) (fun _ => by contradiction)
        refine RU.loG rfl rfl (L.call fn12 rfl (c12) ?_); rintro _ w8 ⟨rfl, gr8⟩; have hC8 := hC7.trans (Ch.of_grow gr8); have hB6 := hB6.gr gr8; have hpA := hpA.gr gr8; have hcallA := hcallA.gr gr8; have hrA := hrA.gr gr8
        refine RU.rd (V.pickT rfl rfl) ?_; refine RU.rd (V.as rfl) ?_; refine RU.nil ?_; refine RX.rt Tryz.func3 (by rfl) (ResOk.tmp rfl (ResOk.nil)) ?_
        exact ⟨rfl, by assumption⟩
      · refine RX.skip ?_; refine RX.seq ?_; refine RX.seq ?_; refine RX.region ?_; refine RU.rd (V.mv rfl) ?_; refine RU.rd (V.gtr rfl rfl) ?_; refine RU.nil ?_; refine RX.condD rfl (fun _ => by omega) fun h7 => ?_
        refine RX.skip ?_; refine RX.seq ?_
        refine RX.draw (Ch Nil w7) [3, 7, 11, 12] [(0, true), (1, true), (2, true), (3, true), (4, true), (5, true), (6, true), (7, true), (8, true), (9, true), (10, true), (11, true), (12, true), (13, true), (14, false), (15, true), (16, true), (17, true), (18, true), (19, true)] mixed (by kernel_rfl) fun w8 gr8 hz8 => ?_
        have hC8 := hC7.trans (Ch.of_grow gr8); have hB6d8 := hB6.gr gr8; have hpAd8 := hpA.gr gr8; have hcallAd8 := hcallA.gr gr8; have hrAd8 := hrA.gr gr8; refine RD.rz rfl (V.mv rfl) ?_; refine RD.rz rfl (V.nck rfl) ?_
        refine RD.rz rfl (V.fld0 f38_0 rfl) ?_; refine RD.rd rfl rfl gr8 (V.ld s31 rfl (fun _ hS => hpA.gr hS) rfl) ?_; refine RD.rz rfl (V.mv rfl) ?_; refine RD.rz rfl (V.nck rfl) ?_; refine RD.rz rfl (V.fld0 f38_1 rfl) ?_
        refine RD.rd rfl rfl gr8 (V.ld s32 rfl (fun _ hS => hpA.gr hS) rfl) ?_; refine RD.rz rfl (V.mv rfl) ?_; refine RD.rz rfl (V.nck rfl) ?_; refine RD.rz rfl (V.fld0 f38_2 rfl) ?_
        refine RD.rd rfl rfl gr8 (V.ld s33 rfl (fun _ hS => hpA.gr hS) rfl) ?_; refine RD.rd rfl rfl gr8 (V.ldA a26 rfl (fun _ hS => hcallA.gr hS) (vs := [_, _, _, _]) rfl rfl) ?_; refine RD.rz rfl (V.mv rfl) ?_
        have yA := gr5.size
        have GA : Grow wA w8 := ((gr5.trans gr6).trans' ch7 (by rintro b hb rfl; omega)).trans gr8
        refine RD.lf rfl (by kernel_rfl) (L.call fn10 rfl (c10g (s := s1) (of := t) (now := 9) (c := .mk 3 0 ref []) (hQA.gr GA) SA.1 CalR.nil (by simp [Cal.sz, Cal.szL])) ?_)
        rintro _ wF ⟨sl2, gvF, rfl, -, chF, -, -⟩
        rw [k7]
        rw [L1] at chF
        have hCF : Grow w wF := hC8.trans' chF (fun b hb hs => by have := hlo b hs; omega)
        have hBF := hB6d8.ch chF (fun hs => by have := hlo _ hs; omega)
        refine RD.rz rfl (V.mv rfl) ?_; refine RD.rz rfl (V.ext rfl rfl) ?_; refine RD.rz rfl (V.ext rfl rfl) ?_; refine RD.rz rfl (V.as rfl) ?_; refine RD.rz rfl (V.as rfl) ?_; refine RD.nil ?_; refine RX.seq ?_
        refine RX.region ?_; refine RU.rd (V.mv rfl) ?_; refine RU.rd (V.eql rfl rfl) ?_; refine RU.rd (V.mv rfl) ?_; refine RU.splitD (fun h8 => ?_) (fun _ => by omega); refine RU.rdG rfl rfl (V.mv rfl) ?_
        refine RU.rdG rfl rfl (V.len u27 rfl) ?_; refine RU.rdG rfl rfl (V.geq rfl rfl) ?_; refine RU.rd (V.pickT rfl rfl) ?_; refine RU.rd (V.mv rfl) ?_; refine RU.splitD (fun h9 => ?_) (fun _ => by omega)
        refine RU.rdG rfl rfl (V.fld0 f44_0 rfl) ?_; refine RU.rdG rfl rfl (V.ld s3 rfl (cur hBF) rfl) ?_; refine RU.rdG rfl rfl (V.neq rfl rfl) ?_; refine RU.rd (V.pickT rfl rfl) ?_; refine RU.rd (V.mv rfl) ?_
        refine RU.splitD (fun h10 => ?_) (fun _ => by omega); refine RU.rdG rfl rfl (V.fld0 f44_10 rfl) ?_; refine RU.rdG rfl rfl (V.ld s3 rfl (cur hBF) rfl) ?_; refine RU.rdG rfl rfl (V.eql rfl rfl) ?_
        refine RU.rd (V.pickT rfl rfl) ?_; refine RU.rd (V.mv rfl) ?_; refine RU.splitD (fun h11 => ?_) (fun _ => by omega); refine RU.rdG rfl rfl (V.mv rfl) ?_; refine RU.rdG rfl rfl (V.eql rfl rfl) ?_
        refine RU.rd (V.pickT rfl rfl) ?_; refine RU.rd (V.mv rfl) ?_; refine RU.splitD (fun h12 => ?_) (fun _ => by omega); refine RU.loG rfl rfl (L.call fn12 rfl (c12) ?_); rintro _ w9 ⟨rfl, gr9⟩
        have hC9 := hCF.trans (Ch.of_grow gr9); have hBF := hBF.gr gr9; refine RU.rd (V.pickT rfl rfl) ?_; refine RU.rd (V.as rfl) ?_; refine RU.nil ?_; refine RX.rt Tryz.func3 (by rfl) (ResOk.tmp rfl (ResOk.nil)) ?_
        exact ⟨rfl, by assumption⟩
end Go.Proofs.YtmcfbinkofoagaaGreat
