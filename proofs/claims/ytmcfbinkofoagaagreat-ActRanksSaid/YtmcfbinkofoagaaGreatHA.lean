/- A spend goes over, if the track may spend as much, and the treasury has it; else nothing does. -/
import Derived.Test.YtmcfbinkofoagaaGreatGA
namespace Go.Proofs.YtmcfbinkofoagaaGreat
open Go Go.RowKit Sx Go.Proofs

theorem startLed_len (fr : List Int) : (startLed fr).acc.length = 10 := by simp [startLed, newAcc, startOf_len]
theorem startLed_at (fr : List Int) {a : Int} (h : Led.is a) : (startLed fr).at a = (if a.toNat < fr.length then 100 + fr.getD a.toNat 0 % 1024 else 100, 0) := by
  have h1 : a.toNat < 10 := by have := h.1; have := h.2; omega
  rw [Led.at_of h.1 (by rw [startLed_len]; omega) (startLed_len fr)]
  simp only [startLed, newAcc, List.getElem_map]
  rw [startOf_at fr (by rw [startOf_len]; exact h1)]
theorem Led.may_free {D : Led} (hk : D.locks = []) {a n : Int} (ha : Led.is a) (h0 : 0 ≤ n ∧ n ≤ 1073741824) : D.may a n = if (D.at a).1 < n then 6 else 0 := by
  have h1 : D.lockd a = 0 := by simp [Led.lockd, hk, rowOf, maxOf]
  unfold Led.may
  rw [h1, if_neg (by rintro (h | h); exact h ha; exact h h0)]
  split
  · rfl
  · rw [if_neg (by omega)]
theorem Led.trE_free {D : Led} (hk : D.locks = []) {f t n : Int} (hf : Led.is f) (ht : Led.is t) (h0 : 0 ≤ n ∧ n ≤ 1073741824) : D.trE f t n = if (D.at f).1 < n then 6 else 0 := by
  unfold Led.trE
  rw [if_neg (by simpa using ht), Led.may_free hk hf h0]
  split <;> simp
theorem Led.tr_at {D : Led} (hk : D.locks = []) (hl : D.acc.length = 10) {f t n : Int} (hf : Led.is f) (ht : Led.is t) (h0 : 0 ≤ n ∧ n ≤ 1073741824) (h1 : n ≤ (D.at f).1) (a : Int) :
    ((D.tr f t n).at a).1 = (D.at a).1 + (if a = t then n else 0) - (if a = f then n else 0) := by
  unfold Led.tr
  rw [if_pos ⟨ht, by rw [Led.may_free hk hf h0, if_neg (by omega)]⟩]
  dsimp only
  rw [Led.at_put (by rw [Led.put_len]; exact hl) ht, Led.at_put hl hf, Led.at_put hl hf]
  by_cases hat : a = t
  · subst hat
    by_cases haf : a = f
    · subst haf; simp
    · simp [haf]
  · by_cases haf : a = f
    · subst haf; simp [hat]
    · simp [hat, haf]
theorem c4 {h to n t : Int} {w : World} : Calls Tryz.prog 4 #[.int .i64 h, .int .i64 to, .int .i64 n, .int .i64 t] w (Ret fun v w' => v = .bool true ∧ Grow w w') := by
  refine calls_of_rx (args := [_, _, _, _]) (e := [(0, _), (1, _), (2, _), (3, _)]) (n := 189) Tryz.func4 rfl rfl rfl (by kernel_rfl) rfl ?_
  have hC := Ch.refl Nil w
  have uq := True.intro
  by_cases hg : h < 0 ∨ 1023 < h ∨ to < 0 ∨ 10 ≤ to ∨ n < 0 ∨ 6000 < n ∨ t < 0 ∨ 2 < t
  · refine RX.seq ?_; refine RX.region ?_; refine RU.rd (V.as rfl) ?_; refine RU.nil ?_; refine RX.seq ?_; refine RX.seq ?_; refine RX.region ?_; refine RU.rd (V.mv rfl) ?_; refine RU.rd (V.lss rfl rfl) ?_
    refine RU.rd (V.mv rfl) ?_; refine RU.splitD (fun h1 => ?_) fun h1 => ?_
    · refine RU.sk rfl rfl rfl ?_; refine RU.sk rfl rfl rfl ?_; refine RU.rd (V.pickT rfl rfl) ?_; refine RU.rd (V.mv rfl) ?_; refine RU.sk rfl rfl rfl ?_; refine RU.sk rfl rfl rfl ?_; refine RU.rd (V.pickT rfl rfl) ?_
      refine RU.rd (V.mv rfl) ?_; refine RU.sk rfl rfl rfl ?_; refine RU.sk rfl rfl rfl ?_; refine RU.rd (V.pickT rfl rfl) ?_; refine RU.rd (V.mv rfl) ?_; refine RU.sk rfl rfl rfl ?_; refine RU.sk rfl rfl rfl ?_
      refine RU.rd (V.pickT rfl rfl) ?_; refine RU.rd (V.mv rfl) ?_; refine RU.sk rfl rfl rfl ?_; refine RU.sk rfl rfl rfl ?_; refine RU.rd (V.pickT rfl rfl) ?_; refine RU.rd (V.mv rfl) ?_; refine RU.sk rfl rfl rfl ?_
      refine RU.sk rfl rfl rfl ?_; refine RU.rd (V.pickT rfl rfl) ?_; refine RU.rd (V.mv rfl) ?_; refine RU.sk rfl rfl rfl ?_; refine RU.sk rfl rfl rfl ?_; refine RU.rd (V.pickT rfl rfl) ?_; refine RU.nil ?_
      refine RX.condT rfl ?_; refine RX.seq ?_; refine RX.region ?_; refine RU.rd (V.as rfl) ?_; refine RU.nil ?_; refine RX.rt Tryz.func4 (by rfl) (ResOk.tmp rfl (ResOk.nil)) ?_; exact ⟨rfl, by assumption⟩
    · refine RU.rdG rfl rfl (V.mv rfl) ?_; refine RU.rdG rfl rfl (V.gtr rfl rfl) ?_; refine RU.rd (V.pickF rfl rfl) ?_; refine RU.rd (V.mv rfl) ?_; refine RU.splitD (fun h2 => ?_) fun h2 => ?_
      · refine RU.sk rfl rfl rfl ?_; refine RU.sk rfl rfl rfl ?_; refine RU.rd (V.pickT rfl rfl) ?_; refine RU.rd (V.mv rfl) ?_; refine RU.sk rfl rfl rfl ?_; refine RU.sk rfl rfl rfl ?_; refine RU.rd (V.pickT rfl rfl) ?_
        refine RU.rd (V.mv rfl) ?_; refine RU.sk rfl rfl rfl ?_; refine RU.sk rfl rfl rfl ?_; refine RU.rd (V.pickT rfl rfl) ?_; refine RU.rd (V.mv rfl) ?_; refine RU.sk rfl rfl rfl ?_; refine RU.sk rfl rfl rfl ?_
        refine RU.rd (V.pickT rfl rfl) ?_; refine RU.rd (V.mv rfl) ?_; refine RU.sk rfl rfl rfl ?_; refine RU.sk rfl rfl rfl ?_; refine RU.rd (V.pickT rfl rfl) ?_; refine RU.rd (V.mv rfl) ?_; refine RU.sk rfl rfl rfl ?_
        refine RU.sk rfl rfl rfl ?_; refine RU.rd (V.pickT rfl rfl) ?_; refine RU.nil ?_; refine RX.condT rfl ?_; refine RX.seq ?_; refine RX.region ?_; refine RU.rd (V.as rfl) ?_; refine RU.nil ?_
        refine RX.rt Tryz.func4 (by rfl) (ResOk.tmp rfl (ResOk.nil)) ?_; exact ⟨rfl, by assumption⟩
      · refine RU.rdG rfl rfl (V.mv rfl) ?_; refine RU.rdG rfl rfl (V.lss rfl rfl) ?_; refine RU.rd (V.pickF rfl rfl) ?_; refine RU.rd (V.mv rfl) ?_; refine RU.splitD (fun h3 => ?_) fun h3 => ?_
        · refine RU.sk rfl rfl rfl ?_; refine RU.sk rfl rfl rfl ?_; refine RU.rd (V.pickT rfl rfl) ?_; refine RU.rd (V.mv rfl) ?_; refine RU.sk rfl rfl rfl ?_; refine RU.sk rfl rfl rfl ?_
          refine RU.rd (V.pickT rfl rfl) ?_; refine RU.rd (V.mv rfl) ?_; refine RU.sk rfl rfl rfl ?_; refine RU.sk rfl rfl rfl ?_; refine RU.rd (V.pickT rfl rfl) ?_; refine RU.rd (V.mv rfl) ?_
          refine RU.sk rfl rfl rfl ?_; refine RU.sk rfl rfl rfl ?_; refine RU.rd (V.pickT rfl rfl) ?_; refine RU.rd (V.mv rfl) ?_; refine RU.sk rfl rfl rfl ?_; refine RU.sk rfl rfl rfl ?_
          refine RU.rd (V.pickT rfl rfl) ?_; refine RU.nil ?_; refine RX.condT rfl ?_; refine RX.seq ?_; refine RX.region ?_; refine RU.rd (V.as rfl) ?_; refine RU.nil ?_
          refine RX.rt Tryz.func4 (by rfl) (ResOk.tmp rfl (ResOk.nil)) ?_; exact ⟨rfl, by assumption⟩
        · refine RU.rdG rfl rfl (V.mv rfl) ?_; refine RU.rdG rfl rfl (V.geq rfl rfl) ?_; refine RU.rd (V.pickF rfl rfl) ?_; refine RU.rd (V.mv rfl) ?_; refine RU.splitD (fun h4 => ?_) fun h4 => ?_
          · refine RU.sk rfl rfl rfl ?_; refine RU.sk rfl rfl rfl ?_; refine RU.rd (V.pickT rfl rfl) ?_; refine RU.rd (V.mv rfl) ?_; refine RU.sk rfl rfl rfl ?_; refine RU.sk rfl rfl rfl ?_
            refine RU.rd (V.pickT rfl rfl) ?_; refine RU.rd (V.mv rfl) ?_; refine RU.sk rfl rfl rfl ?_; refine RU.sk rfl rfl rfl ?_; refine RU.rd (V.pickT rfl rfl) ?_; refine RU.rd (V.mv rfl) ?_
            refine RU.sk rfl rfl rfl ?_; refine RU.sk rfl rfl rfl ?_; refine RU.rd (V.pickT rfl rfl) ?_; refine RU.nil ?_; refine RX.condT rfl ?_; refine RX.seq ?_; refine RX.region ?_; refine RU.rd (V.as rfl) ?_
            refine RU.nil ?_; refine RX.rt Tryz.func4 (by rfl) (ResOk.tmp rfl (ResOk.nil)) ?_; exact ⟨rfl, by assumption⟩
          · refine RU.rdG rfl rfl (V.mv rfl) ?_; refine RU.rdG rfl rfl (V.lss rfl rfl) ?_; refine RU.rd (V.pickF rfl rfl) ?_; refine RU.rd (V.mv rfl) ?_; refine RU.splitD (fun h5 => ?_) fun h5 => ?_
            · refine RU.sk rfl rfl rfl ?_; refine RU.sk rfl rfl rfl ?_; refine RU.rd (V.pickT rfl rfl) ?_; refine RU.rd (V.mv rfl) ?_; refine RU.sk rfl rfl rfl ?_; refine RU.sk rfl rfl rfl ?_
              refine RU.rd (V.pickT rfl rfl) ?_; refine RU.rd (V.mv rfl) ?_; refine RU.sk rfl rfl rfl ?_; refine RU.sk rfl rfl rfl ?_; refine RU.rd (V.pickT rfl rfl) ?_; refine RU.nil ?_; refine RX.condT rfl ?_
              refine RX.seq ?_; refine RX.region ?_; refine RU.rd (V.as rfl) ?_; refine RU.nil ?_; refine RX.rt Tryz.func4 (by rfl) (ResOk.tmp rfl (ResOk.nil)) ?_; exact ⟨rfl, by assumption⟩
            · refine RU.rdG rfl rfl (V.mv rfl) ?_; refine RU.rdG rfl rfl (V.gtr rfl rfl) ?_; refine RU.rd (V.pickF rfl rfl) ?_; refine RU.rd (V.mv rfl) ?_; refine RU.splitD (fun h6 => ?_) fun h6 => ?_
              · refine RU.sk rfl rfl rfl ?_; refine RU.sk rfl rfl rfl ?_; refine RU.rd (V.pickT rfl rfl) ?_; refine RU.rd (V.mv rfl) ?_; refine RU.sk rfl rfl rfl ?_; refine RU.sk rfl rfl rfl ?_
                refine RU.rd (V.pickT rfl rfl) ?_; refine RU.nil ?_; refine RX.condT rfl ?_; refine RX.seq ?_; refine RX.region ?_; refine RU.rd (V.as rfl) ?_; refine RU.nil ?_
                refine RX.rt Tryz.func4 (by rfl) (ResOk.tmp rfl (ResOk.nil)) ?_; exact ⟨rfl, by assumption⟩
              · refine RU.rdG rfl rfl (V.mv rfl) ?_; refine RU.rdG rfl rfl (V.lss rfl rfl) ?_; refine RU.rd (V.pickF rfl rfl) ?_; refine RU.rd (V.mv rfl) ?_; refine RU.splitD (fun h7 => ?_) fun h7 => ?_
                · refine RU.sk rfl rfl rfl ?_; refine RU.sk rfl rfl rfl ?_; refine RU.rd (V.pickT rfl rfl) ?_; refine RU.nil ?_; refine RX.condT rfl ?_; refine RX.seq ?_; refine RX.region ?_
                  refine RU.rd (V.as rfl) ?_; refine RU.nil ?_; refine RX.rt Tryz.func4 (by rfl) (ResOk.tmp rfl (ResOk.nil)) ?_; exact ⟨rfl, by assumption⟩
                · refine RU.rdG rfl rfl (V.mv rfl) ?_; refine RU.rdG rfl rfl (V.gtr rfl rfl) ?_; refine RU.rd (V.pickF rfl rfl) ?_; refine RU.nil ?_; refine RX.condD rfl (fun h8 => ?_) (fun _ => by omega)
                  refine RX.seq ?_; refine RX.region ?_; refine RU.rd (V.as rfl) ?_; refine RU.nil ?_; refine RX.rt Tryz.func4 (by rfl) (ResOk.tmp rfl (ResOk.nil)) ?_; exact ⟨rfl, by assumption⟩
  have g1 : 0 ≤ h ∧ h ≤ 1023 ∧ 0 ≤ to ∧ to < 10 ∧ 0 ≤ n ∧ n ≤ 6000 ∧ 0 ≤ t ∧ t ≤ 2 := by omega
  clear hg
  refine RX.seq ?_; refine RX.region ?_; refine RU.rd (V.as rfl) ?_; refine RU.nil ?_; refine RX.seq ?_; refine RX.seq ?_; refine RX.region ?_; refine RU.rd (V.mv rfl) ?_; refine RU.rd (V.lss rfl rfl) ?_
  refine RU.rd (V.mv rfl) ?_; refine RU.splitD (fun _ => by omega) fun h1 => ?_; refine RU.rdG rfl rfl (V.mv rfl) ?_; refine RU.rdG rfl rfl (V.gtr rfl rfl) ?_; refine RU.rd (V.pickF rfl rfl) ?_; refine RU.rd (V.mv rfl) ?_
  refine RU.splitD (fun _ => by omega) fun h2 => ?_; refine RU.rdG rfl rfl (V.mv rfl) ?_; refine RU.rdG rfl rfl (V.lss rfl rfl) ?_; refine RU.rd (V.pickF rfl rfl) ?_; refine RU.rd (V.mv rfl) ?_
  refine RU.splitD (fun _ => by omega) fun h3 => ?_; refine RU.rdG rfl rfl (V.mv rfl) ?_; refine RU.rdG rfl rfl (V.geq rfl rfl) ?_; refine RU.rd (V.pickF rfl rfl) ?_; refine RU.rd (V.mv rfl) ?_
  refine RU.splitD (fun _ => by omega) fun h4 => ?_; refine RU.rdG rfl rfl (V.mv rfl) ?_; refine RU.rdG rfl rfl (V.lss rfl rfl) ?_; refine RU.rd (V.pickF rfl rfl) ?_; refine RU.rd (V.mv rfl) ?_
  refine RU.splitD (fun _ => by omega) fun h5 => ?_; refine RU.rdG rfl rfl (V.mv rfl) ?_; refine RU.rdG rfl rfl (V.gtr rfl rfl) ?_; refine RU.rd (V.pickF rfl rfl) ?_; refine RU.rd (V.mv rfl) ?_
  refine RU.splitD (fun _ => by omega) fun h6 => ?_; refine RU.rdG rfl rfl (V.mv rfl) ?_; refine RU.rdG rfl rfl (V.lss rfl rfl) ?_; refine RU.rd (V.pickF rfl rfl) ?_; refine RU.rd (V.mv rfl) ?_
  refine RU.splitD (fun _ => by omega) fun h7 => ?_; refine RU.rdG rfl rfl (V.mv rfl) ?_; refine RU.rdG rfl rfl (V.gtr rfl rfl) ?_; refine RU.rd (V.pickF rfl rfl) ?_; refine RU.nil ?_
  refine RX.condD rfl (fun _ => by omega) fun h8 => ?_; refine RX.skip ?_; refine RX.seq ?_; refine RX.region ?_; refine RU.rd (V.mv rfl) ?_
  refine RU.lo (L.bsl hC e49 z3 rfl rfl rfl rfl fun b1 w1 hb1 le1 hC1 gr1 hz1 hB1 => ?_)
  have hRI : RdI w1 (.slice (some ⟨b1, 0, none⟩) 1 1) [h] := RdI.of (f := [h]) (off := 0) hB1.r (fun i hi => by
    obtain rfl : i = 0 := by simpa using hi
    rfl)
  refine RU.lo (L.call fn9 rfl (c9 hRI) ?_)
  rintro _ w2 ⟨q, rfl, gr2, hab, -, hP⟩
  have hC2 := hC1.trans gr2
  have hp := hP.hp
  have hL := hP.hl
  have ho := startLed_ok [h]
  have hto : Led.is to := ⟨by omega, by omega⟩
  have h0 : Led.is 0 := ⟨by omega, by omega⟩
  have d0 : ((startLed [h]).at 0).1 = 100 + h := by
    rw [startLed_at [h] h0]
    simp; omega
  have hsl := startLed_len [h]
  have hkl : (startLed [h]).locks = [] := rfl
  have hla := hL.lt q.g.ab (.inr (.inl rfl))
  refine RU.rd (V.as rfl) ?_; refine RU.nil ?_; refine RX.seq ?_; refine RX.seq ?_; refine RX.region ?_; refine RU.rd (V.mv rfl) ?_; refine RU.rd (V.eqNil u22 rfl rfl) ?_; refine RU.nil ?_; refine RX.condF rfl ?_
  refine RX.skip ?_; refine RX.seq ?_; refine RX.region ?_; refine RU.rd (V.mv rfl) ?_; refine RU.rd (V.nck rfl) ?_; refine RU.rd (V.fld0 f38_0 rfl) ?_; refine RU.rd (V.ld s31 rfl (cur hp) rfl) ?_
  refine RU.rd (V.mv rfl) ?_; refine RU.lo (L.call fn13 rfl (c13 hL) ?_); rintro _ w3 ⟨rfl, gr3⟩; have hC3 := hC2.trans (Ch.of_grow gr3); have hp := hp.gr gr3; refine RU.rd (V.as rfl) ?_; refine RU.nil ?_; refine RX.seq ?_
  refine RX.draw (Ch Nil w3) [3, 7, 11] [(0, true), (1, true), (2, true), (3, true), (4, true), (5, true), (6, true), (7, true), (8, true), (9, true), (10, true), (11, true), (12, true), (13, true), (14, true), (15, true), (16, false), (17, true), (18, true), (19, true), (20, true), (21, true)] mixed (by kernel_rfl) fun w4 gr4 hz4 => ?_
  have hC4 := hC3.trans (Ch.of_grow gr4); have hpd4 := hp.gr gr4; refine RD.rz rfl (V.mv rfl) ?_; refine RD.rz rfl (V.nck rfl) ?_; refine RD.rz rfl (V.fld0 f38_0 rfl) ?_
  refine RD.rd rfl rfl gr4 (V.ld s31 rfl (fun _ hS => hp.gr hS) rfl) ?_; refine RD.rz rfl (V.mv rfl) ?_; refine RD.rz rfl (V.nck rfl) ?_; refine RD.rz rfl (V.fld0 f38_1 rfl) ?_
  refine RD.rd rfl rfl gr4 (V.ld s32 rfl (fun _ hS => hp.gr hS) rfl) ?_; refine RD.rz rfl (V.mv rfl) ?_; refine RD.rz rfl (V.nck rfl) ?_; refine RD.rz rfl (V.fld0 f38_2 rfl) ?_
  refine RD.rd rfl rfl gr4 (V.ld s33 rfl (fun _ hS => hp.gr hS) rfl) ?_; refine RD.rz rfl (V.mv rfl) ?_; refine RD.rz rfl (V.mv rfl) ?_; refine RD.rz rfl (V.bld bf26 z26 rfl rfl) ?_; refine RD.rz rfl (V.mv rfl) ?_
  have hcl := fun w hP => c10 (q := q) (w := w) (of := t) (now := 0) hP ho (CalR.nil (k := 2) (to := to) (n := n)) (by simp [Cal.plain]) (by simp [Cal.isB]; omega) (by simp [Cal.sz, Cal.szL]) (by omega)
  rw [does_spend] at hcl
  obtain ⟨cap, hcap, at1⟩ : ∃ cap, (trAt theTracks t).cap = cap ∧ ∀ j (_ : j = t.toNat), [Value.int .i64 5, Value.int .i64 50, Value.int .i64 5000][0 + j * 1]? = some (.int .i64 cap) := by
    obtain rfl | rfl | rfl : t = 0 ∨ t = 1 ∨ t = 2 := by omega
    · exact ⟨5, rfl, by rintro j rfl; rfl⟩
    · exact ⟨50, rfl, by rintro j rfl; rfl⟩
    · exact ⟨5000, rfl, by rintro j rfl; rfl⟩
  rw [hcap] at hcl
  clear hcap
  replace hcl := hcl w4 ((hP.gr gr3).gr gr4)
  clear hL hp hpd4
  have key : (spendC cap to n (startLed [h]) = (startLed [h], [], 10) ∧ cap < n) ∨ (spendC cap to n (startLed [h]) = (startLed [h], [], 6) ∧ ¬ cap < n ∧ 100 + h < n) ∨
      (spendC cap to n (startLed [h]) = ((startLed [h]).tr 0 to n, [(3, to, n)], 0) ∧ ¬ cap < n ∧ ¬ 100 + h < n) := by
    have e1 := Led.trE_free hkl h0 hto (n := n) (by omega)
    rw [d0] at e1
    unfold spendC
    by_cases c1 : cap < n
    · exact .inl ⟨by rw [if_pos c1], c1⟩
    · by_cases c2 : 100 + h < n
      · rw [if_pos c2] at e1
        exact .inr (.inl ⟨by rw [if_neg c1, if_pos (by rw [e1]; decide), e1], c1, c2⟩)
      · rw [if_neg c2] at e1
        exact .inr (.inr ⟨by rw [if_neg c1, if_neg (by rw [e1]; decide)], c1, c2⟩)
  rcases key with ⟨e1, c1⟩ | ⟨e1, c1, c2⟩ | ⟨e1, c1, c2⟩ <;> rw [e1] at hcl
  · skip
    refine RD.lf rfl (by kernel_rfl) (L.call fn10 rfl hcl ?_)
    rintro _ w5 ⟨s, rfl, hO5, ch5, hP5⟩
    have hC5 := hC4.trans' ch5 (by rintro b hb rfl; omega)
    have hp5 := hP5.hp
    have hL5 := hP5.hl
    have hs : ∃ p c, s = .slice p 0 c := by
      cases hO5 with
      | nil => exact ⟨_, _, rfl⟩
      | some h0 hb hl hc ht hn => rename_i b nn c all; have : nn = 0 := by simp [evsC, rws] at hc; omega
                                  subst this; exact ⟨_, _, rfl⟩
    obtain ⟨ps, cs, rfl⟩ := hs
    refine RD.rz rfl (V.mv rfl) ?_; refine RD.rz rfl (V.ext rfl rfl) ?_; refine RD.rz rfl (V.ext rfl rfl) ?_; refine RD.rz rfl (V.as rfl) ?_; refine RD.rz rfl (V.as rfl) ?_; refine RD.nil ?_; refine RX.seq ?_
    refine RX.region ?_; have l6_hp5 := hp5.lt; refine RU.lo (L.bsl hC5 e49 z3 rfl rfl rfl rfl fun b6 w6 hb6 le6 hC6 gr6 hz6 hB6 => ?_); have hp5 := hp5.gr gr6; refine RU.rd (V.mv rfl) ?_
    refine RU.rd (V.idx e49 rfl rfl (by omega)) ?_; refine RU.rd (V.ld s3 rfl (cur hB6) (at1 _ (by omega))) ?_; refine RU.rd (V.as rfl) ?_; refine RU.nil ?_; refine RX.seq ?_; refine RX.block ?_; refine RX.seq ?_
    refine RX.region ?_; refine RU.rd (V.mv rfl) ?_; refine RU.rd (V.mv rfl) ?_; refine RU.rd (V.gtr rfl rfl) ?_; refine RU.rd (V.as rfl) ?_; refine RU.nil ?_; refine RX.condD rfl (fun h9 => ?_) (fun _ => by omega)
    refine RX.seq ?_; refine RX.region ?_; refine RU.rd (V.mv rfl) ?_; refine RU.rd (V.eql rfl rfl) ?_; refine RU.rd (V.mv rfl) ?_; refine RU.splitD (fun h10 => ?_) (fun _ => by contradiction)
    refine RU.rdG rfl rfl (V.mv rfl) ?_; refine RU.rdG rfl rfl (V.len u27 rfl) ?_; refine RU.rdG rfl rfl (V.eql rfl rfl) ?_; refine RU.rd (V.pickT rfl rfl) ?_; refine RU.rd (V.mv rfl) ?_
    refine RU.splitD (fun h11 => ?_) (fun _ => by omega); refine RU.rdG rfl rfl (V.mv rfl) ?_; refine RU.rdG rfl rfl (V.nck rfl) ?_; refine RU.rdG rfl rfl (V.fld0 f38_0 rfl) ?_
    refine RU.rdG rfl rfl (V.ld s31 rfl (cur hp5) rfl) ?_; refine RU.rdG rfl rfl (V.mv rfl) ?_; refine RU.loG rfl rfl (L.call fn13 rfl (c13 (hL5.gr gr6)) ?_); rintro _ w7 ⟨rfl, gr7⟩; have hC7 := hC6.trans (Ch.of_grow gr7)
    have hB6 := hB6.gr gr7; have hp5 := hp5.gr gr7; refine RU.rdG rfl rfl (V.mv rfl) ?_; refine RU.rdG rfl rfl (V.eql rfl rfl) ?_; refine RU.rd (V.pickT rfl rfl) ?_; refine RU.rd (V.mv rfl) ?_
    refine RU.splitD (fun h12 => ?_) (fun _ => by contradiction); refine RU.loG rfl rfl (L.call fn12 rfl (c12) ?_); rintro _ w8 ⟨rfl, gr8⟩; have hC8 := hC7.trans (Ch.of_grow gr8); have hB6 := hB6.gr gr8
    have hp5 := hp5.gr gr8; refine RU.rd (V.pickT rfl rfl) ?_; refine RU.rd (V.as rfl) ?_; refine RU.nil ?_; refine RX.rt Tryz.func4 (by rfl) (ResOk.tmp rfl (ResOk.nil)) ?_
    exact ⟨rfl, by assumption⟩
  · skip
    refine RD.lf rfl (by kernel_rfl) (L.call fn10 rfl hcl ?_)
    rintro _ w5 ⟨s, rfl, hO5, ch5, hP5⟩
    have hC5 := hC4.trans' ch5 (by rintro b hb rfl; omega)
    have hp5 := hP5.hp
    have hL5 := hP5.hl
    have hs : ∃ p c, s = .slice p 0 c := by
      cases hO5 with
      | nil => exact ⟨_, _, rfl⟩
      | some h0 hb hl hc ht hn => rename_i b nn c all; have : nn = 0 := by simp [evsC, rws] at hc; omega
                                  subst this; exact ⟨_, _, rfl⟩
    obtain ⟨ps, cs, rfl⟩ := hs
    refine RD.rz rfl (V.mv rfl) ?_; refine RD.rz rfl (V.ext rfl rfl) ?_; refine RD.rz rfl (V.ext rfl rfl) ?_; refine RD.rz rfl (V.as rfl) ?_; refine RD.rz rfl (V.as rfl) ?_; refine RD.nil ?_; refine RX.seq ?_
    refine RX.region ?_; have l6_hp5 := hp5.lt; refine RU.lo (L.bsl hC5 e49 z3 rfl rfl rfl rfl fun b6 w6 hb6 le6 hC6 gr6 hz6 hB6 => ?_); have hp5 := hp5.gr gr6; refine RU.rd (V.mv rfl) ?_
    refine RU.rd (V.idx e49 rfl rfl (by omega)) ?_; refine RU.rd (V.ld s3 rfl (cur hB6) (at1 _ (by omega))) ?_; refine RU.rd (V.as rfl) ?_; refine RU.nil ?_; refine RX.seq ?_; refine RX.block ?_; refine RX.seq ?_
    refine RX.region ?_; refine RU.rd (V.mv rfl) ?_; refine RU.rd (V.mv rfl) ?_; refine RU.rd (V.gtr rfl rfl) ?_; refine RU.rd (V.as rfl) ?_; refine RU.nil ?_; refine RX.condD rfl (fun _ => by omega) fun h9 => ?_
    refine RX.seq ?_; refine RX.region ?_; refine RU.rd (V.mv rfl) ?_; refine RU.rd (V.mv rfl) ?_; refine RU.rd (V.add rfl rfl (by omega)) ?_; refine RU.rd (V.gtr rfl rfl) ?_; refine RU.rd (V.as rfl) ?_; refine RU.nil ?_
    refine RX.condD rfl (fun h10 => ?_) (fun _ => by omega); refine RX.seq ?_; refine RX.region ?_; refine RU.rd (V.mv rfl) ?_; refine RU.rd (V.eql rfl rfl) ?_; refine RU.rd (V.mv rfl) ?_
    refine RU.splitD (fun h11 => ?_) (fun _ => by contradiction); refine RU.rdG rfl rfl (V.mv rfl) ?_; refine RU.rdG rfl rfl (V.len u27 rfl) ?_; refine RU.rdG rfl rfl (V.eql rfl rfl) ?_; refine RU.rd (V.pickT rfl rfl) ?_
    refine RU.rd (V.mv rfl) ?_; refine RU.splitD (fun h12 => ?_) (fun _ => by omega); refine RU.rdG rfl rfl (V.mv rfl) ?_; refine RU.rdG rfl rfl (V.nck rfl) ?_; refine RU.rdG rfl rfl (V.fld0 f38_0 rfl) ?_
    refine RU.rdG rfl rfl (V.ld s31 rfl (cur hp5) rfl) ?_; refine RU.rdG rfl rfl (V.mv rfl) ?_; refine RU.loG rfl rfl (L.call fn13 rfl (c13 (hL5.gr gr6)) ?_); rintro _ w7 ⟨rfl, gr7⟩; have hC7 := hC6.trans (Ch.of_grow gr7)
    have hB6 := hB6.gr gr7; have hp5 := hp5.gr gr7; refine RU.rdG rfl rfl (V.mv rfl) ?_; refine RU.rdG rfl rfl (V.eql rfl rfl) ?_; refine RU.rd (V.pickT rfl rfl) ?_; refine RU.rd (V.mv rfl) ?_
    refine RU.splitD (fun h13 => ?_) (fun _ => by contradiction); refine RU.loG rfl rfl (L.call fn12 rfl (c12) ?_); rintro _ w8 ⟨rfl, gr8⟩; have hC8 := hC7.trans (Ch.of_grow gr8); have hB6 := hB6.gr gr8
    have hp5 := hp5.gr gr8; refine RU.rd (V.pickT rfl rfl) ?_; refine RU.rd (V.as rfl) ?_; refine RU.nil ?_; refine RX.rt Tryz.func4 (by rfl) (ResOk.tmp rfl (ResOk.nil)) ?_
    exact ⟨rfl, by assumption⟩
  · have f1 := Led.tr_at hkl hsl h0 hto (n := n) (by omega) (by omega) to
    have f2 := Led.tr_at hkl hsl h0 hto (n := n) (by omega) (by omega) 0
    refine RD.lf rfl (by kernel_rfl) (L.call fn10 rfl hcl ?_)
    rintro _ w5 ⟨s, rfl, hO5, ch5, hP5⟩
    have hC5 := hC4.trans' ch5 (by rintro b hb rfl; omega)
    have hp5 := hP5.hp
    have hL5 := hP5.hl
    obtain ⟨b5, n5, c5, sp5, rfl, le5, hn5, hB5, -⟩ := Own.opn hO5 (by simp [evsC_len])
    have hn5 : n5 = 1 := by rw [evsC_len] at hn5; simp at hn5; omega
    subst hn5
    replace hB5 : Blk w5 b5 ([.int .i64 3, .int .i64 to, .int .i64 n] ++ sp5) 52 := hB5
    have hz5 := hC5.size
    have hat := ho.at hsl to
    dsimp only at hL5
    rw [if_pos rfl] at f1 f2
    by_cases ht0 : to = 0
    · subst ht0
      rw [if_pos rfl] at f1
      refine RD.rz rfl (V.mv rfl) ?_; refine RD.rz rfl (V.ext rfl rfl) ?_; refine RD.rz rfl (V.ext rfl rfl) ?_; refine RD.rz rfl (V.as rfl) ?_; refine RD.rz rfl (V.as rfl) ?_; refine RD.nil ?_; refine RX.seq ?_
      refine RX.region ?_; have l6_hp5 := hp5.lt; have l6_hB5 := hB5.lt; refine RU.lo (L.bsl hC5 e49 z3 rfl rfl rfl rfl fun b6 w6 hb6 le6 hC6 gr6 hz6 hB6 => ?_); have hp5 := hp5.gr gr6; have hB5 := hB5.gr gr6
      refine RU.rd (V.mv rfl) ?_; refine RU.rd (V.idx e49 rfl rfl (by omega)) ?_; refine RU.rd (V.ld s3 rfl (cur hB6) (at1 _ (by omega))) ?_; refine RU.rd (V.as rfl) ?_; refine RU.nil ?_; refine RX.seq ?_; refine RX.block ?_
      refine RX.seq ?_; refine RX.region ?_; refine RU.rd (V.mv rfl) ?_; refine RU.rd (V.mv rfl) ?_; refine RU.rd (V.gtr rfl rfl) ?_; refine RU.rd (V.as rfl) ?_; refine RU.nil ?_
      refine RX.condD rfl (fun _ => by omega) fun h9 => ?_; refine RX.seq ?_; refine RX.region ?_; refine RU.rd (V.mv rfl) ?_; refine RU.rd (V.mv rfl) ?_; refine RU.rd (V.add rfl rfl (by omega)) ?_
      refine RU.rd (V.gtr rfl rfl) ?_; refine RU.rd (V.as rfl) ?_; refine RU.nil ?_; refine RX.condD rfl (fun _ => by omega) fun h10 => ?_; refine RX.seq ?_; refine RX.region ?_; refine RU.rd (V.mv rfl) ?_
      refine RU.rd (V.eql rfl rfl) ?_; refine RU.rd (V.as rfl) ?_; refine RU.nil ?_; refine RX.condT rfl ?_; refine RX.seq ?_; refine RX.region ?_; refine RU.rd (V.mv rfl) ?_; refine RU.rd (V.eql rfl rfl) ?_
      refine RU.rd (V.mv rfl) ?_; refine RU.splitD (fun h11 => ?_) (fun _ => by contradiction); refine RU.rdG rfl rfl (V.mv rfl) ?_; refine RU.rdG rfl rfl (V.nck rfl) ?_; refine RU.rdG rfl rfl (V.fld0 f38_0 rfl) ?_
      refine RU.rdG rfl rfl (V.ld s31 rfl (cur hp5) rfl) ?_; refine RU.rdG rfl rfl (V.mv rfl) ?_; refine RU.loG rfl rfl (L.call fn13 rfl (c13 (hL5.gr gr6)) ?_); rintro _ w7 ⟨rfl, gr7⟩; have hC7 := hC6.trans (Ch.of_grow gr7)
      have hB6 := hB6.gr gr7; have hp5 := hp5.gr gr7; have hB5 := hB5.gr gr7; refine RU.rdG rfl rfl (V.mv rfl) ?_; refine RU.rdG rfl rfl (V.eql rfl rfl) ?_; refine RU.rd (V.pickT rfl rfl) ?_; refine RU.rd (V.mv rfl) ?_
      refine RU.splitD (fun h12 => ?_) (fun _ => by omega); refine RU.loG rfl rfl (L.call fn12 rfl (c12) ?_); rintro _ w8 ⟨rfl, gr8⟩; have hC8 := hC7.trans (Ch.of_grow gr8); have hB6 := hB6.gr gr8; have hp5 := hp5.gr gr8
      have hB5 := hB5.gr gr8; refine RU.rd (V.pickT rfl rfl) ?_; refine RU.rd (V.as rfl) ?_; refine RU.nil ?_; refine RX.rt Tryz.func4 (by rfl) (ResOk.tmp rfl (ResOk.nil)) ?_
      exact ⟨rfl, by assumption⟩
    · rw [if_neg ht0] at f1
      rw [if_neg (fun h => ht0 h.symm)] at f2
      refine RD.rz rfl (V.mv rfl) ?_; refine RD.rz rfl (V.ext rfl rfl) ?_; refine RD.rz rfl (V.ext rfl rfl) ?_; refine RD.rz rfl (V.as rfl) ?_; refine RD.rz rfl (V.as rfl) ?_; refine RD.nil ?_; refine RX.seq ?_
      refine RX.region ?_; have l6_hp5 := hp5.lt; have l6_hB5 := hB5.lt; refine RU.lo (L.bsl hC5 e49 z3 rfl rfl rfl rfl fun b6 w6 hb6 le6 hC6 gr6 hz6 hB6 => ?_); have hp5 := hp5.gr gr6; have hB5 := hB5.gr gr6
      refine RU.rd (V.mv rfl) ?_; refine RU.rd (V.idx e49 rfl rfl (by omega)) ?_; refine RU.rd (V.ld s3 rfl (cur hB6) (at1 _ (by omega))) ?_; refine RU.rd (V.as rfl) ?_; refine RU.nil ?_; refine RX.seq ?_; refine RX.block ?_
      refine RX.seq ?_; refine RX.region ?_; refine RU.rd (V.mv rfl) ?_; refine RU.rd (V.mv rfl) ?_; refine RU.rd (V.gtr rfl rfl) ?_; refine RU.rd (V.as rfl) ?_; refine RU.nil ?_
      refine RX.condD rfl (fun _ => by omega) fun h9 => ?_; refine RX.seq ?_; refine RX.region ?_; refine RU.rd (V.mv rfl) ?_; refine RU.rd (V.mv rfl) ?_; refine RU.rd (V.add rfl rfl (by omega)) ?_
      refine RU.rd (V.gtr rfl rfl) ?_; refine RU.rd (V.as rfl) ?_; refine RU.nil ?_; refine RX.condD rfl (fun _ => by omega) fun h10 => ?_; refine RX.seq ?_; refine RX.region ?_; refine RU.rd (V.mv rfl) ?_
      refine RU.rd (V.eql rfl rfl) ?_; refine RU.rd (V.as rfl) ?_; refine RU.nil ?_; refine RX.condD rfl (fun _ => by omega) fun h11 => ?_; refine RX.skip ?_; refine RX.inBlock ?_; refine RX.seq ?_; refine RX.region ?_
      refine RU.rd (V.mv rfl) ?_; refine RU.rd (V.eql rfl rfl) ?_; refine RU.rd (V.mv rfl) ?_; refine RU.splitD (fun h12 => ?_) (fun _ => by contradiction); refine RU.rdG rfl rfl (V.mv rfl) ?_
      refine RU.rdG rfl rfl (V.len u27 rfl) ?_; refine RU.rdG rfl rfl (V.eql rfl rfl) ?_; refine RU.rd (V.pickT rfl rfl) ?_; refine RU.rd (V.mv rfl) ?_; refine RU.splitD (fun h13 => ?_) (fun _ => by omega)
      refine RU.rdG rfl rfl (V.mv rfl) ?_; refine RU.rdG rfl rfl (V.idx e27 rfl rfl (by omega)) ?_; refine RU.rdG rfl rfl (V.ldA a52 rfl (cur hB5) (vs := [_, _, _]) rfl rfl) ?_; refine RU.rdG rfl rfl (V.mv rfl) ?_
      refine RU.rdG rfl rfl (V.mv rfl) ?_; refine RU.rdG rfl rfl (V.bld bf52 z52 rfl rfl) ?_; refine RU.rdG rfl rfl (V.eqS q52 (by kernel_rfl) rfl rfl) ?_; refine RU.rd (V.pickT rfl rfl) ?_; refine RU.rd (V.mv rfl) ?_
      refine RU.rdG rfl rfl (V.mv rfl) ?_; refine RU.rdG rfl rfl (V.nck rfl) ?_; refine RU.rdG rfl rfl (V.fld0 f38_0 rfl) ?_; refine RU.rdG rfl rfl (V.ld s31 rfl (cur hp5) rfl) ?_; refine RU.rdG rfl rfl (V.mv rfl) ?_
      refine RU.loG rfl rfl (L.call fn13 rfl (c13 (hL5.gr gr6)) ?_); rintro _ w7 ⟨rfl, gr7⟩; have hC7 := hC6.trans (Ch.of_grow gr7); have hB6 := hB6.gr gr7; have hp5 := hp5.gr gr7; have hB5 := hB5.gr gr7
      refine RU.rdG rfl rfl (V.mv rfl) ?_; refine RU.rdG rfl rfl (V.mv rfl) ?_; refine RU.rdG rfl rfl (V.add rfl rfl (by omega)) ?_; refine RU.rdG rfl rfl (V.eql rfl rfl) ?_; refine RU.rd (V.pickT rfl rfl) ?_
      refine RU.rd (V.mv rfl) ?_; refine RU.splitD (fun h14 => ?_) (fun _ => by omega); refine RU.rdG rfl rfl (V.mv rfl) ?_; refine RU.rdG rfl rfl (V.nck rfl) ?_; refine RU.rdG rfl rfl (V.fld0 f38_0 rfl) ?_
      refine RU.rdG rfl rfl (V.ld s31 rfl (cur hp5) rfl) ?_
      have hL7 := hL5.gr (gr6.trans gr7)
      refine RU.loG rfl rfl (L.call fn13 rfl (c13 hL7) ?_); rintro _ w8 ⟨rfl, gr8⟩; have hC8 := hC7.trans (Ch.of_grow gr8); have hB6 := hB6.gr gr8; have hp5 := hp5.gr gr8; have hB5 := hB5.gr gr8
      refine RU.rdG rfl rfl (V.mv rfl) ?_; refine RU.rdG rfl rfl (V.add rfl rfl (by omega)) ?_; refine RU.rdG rfl rfl (V.mv rfl) ?_; refine RU.rdG rfl rfl (V.sub rfl rfl (by omega)) ?_; refine RU.rdG rfl rfl (V.eql rfl rfl) ?_
      refine RU.rd (V.pickT rfl rfl) ?_; refine RU.rd (V.mv rfl) ?_; refine RU.splitD (fun h15 => ?_) (fun _ => by omega); refine RU.loG rfl rfl (L.call fn12 rfl (c12) ?_); rintro _ w9 ⟨rfl, gr9⟩
      have hC9 := hC8.trans (Ch.of_grow gr9); have hB6 := hB6.gr gr9; have hp5 := hp5.gr gr9; have hB5 := hB5.gr gr9; refine RU.rd (V.pickT rfl rfl) ?_; refine RU.rd (V.as rfl) ?_; refine RU.nil ?_
      refine RX.rt Tryz.func4 (by rfl) (ResOk.tmp rfl (ResOk.nil)) ?_
      exact ⟨rfl, by assumption⟩
end Go.Proofs.YtmcfbinkofoagaaGreat
