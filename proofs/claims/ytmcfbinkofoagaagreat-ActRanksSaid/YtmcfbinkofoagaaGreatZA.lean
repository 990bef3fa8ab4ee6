/- A referendum is submitted (the program). -/
import Derived.Test.YtmcfbinkofoagaaGreatYB
namespace Go.Proofs.YtmcfbinkofoagaaGreat
open Go Go.RowKit Sx Go.Proofs

set_option maxRecDepth 100000 in
theorem c24 {w : World} {q : QG} {pk : Nat → Nat} {gv : Value} {D : Led} {rs : List Rfd} {who t : Int} (h : QAt w q pk gv D rs) (hpb : q.pb < w.heap.size) (hw : 0 ≤ who ∧ who < 10) (ht : 0 ≤ t ∧ t < 3) (hnn : rs.length < 12) (hf : 10 ≤ (D.at who).1) :
    Calls Tryz.prog 24 #[.pointer (some ⟨q.rb, 0, none⟩), .pointer (some ⟨q.g.lb, 0, none⟩), .pointer (some ⟨q.vb, 0, none⟩), .int .i64 who, .int .i64 t, .agg #[.int .u8 0, .int .u8 0, .int .u8 0, .int .u8 0, .int .u8 0, .int .u8 0, .int .u8 0, .int .u8 0, .int .u8 0, .int .u8 0, .int .u8 0, .int .u8 0, .int .u8 0, .int .u8 0, .int .u8 0, .int .u8 0, .int .u8 0, .int .u8 0, .int .u8 0, .int .u8 0, .int .u8 0, .int .u8 0, .int .u8 0, .int .u8 0, .int .u8 0, .int .u8 0, .int .u8 0, .int .u8 0, .int .u8 0, .int .u8 0, .int .u8 0, .int .u8 0], .int .i64 0, .int .i64 0] w
    (Ret fun _ w' => ∃ b gv', w.heap.size ≤ b ∧ Ch (fun x => x = q.g.ab ∨ x = q.vb ∨ x = q.gb) w w' ∧ QAt w' q (pkUpd pk rs.length b) gv' (D.res who 10) (rs ++ [newR who t 0 0 fun _ => 0]) ∧ ∀ c, inSl gv' c → w.heap.size ≤ c) := by
  have hr := h.hr
  have hT := h.ht
  have hg := h.hg
  have hv := h.hv
  have hl := h.hl
  have hn := h.hn
  have hlt := h.lt
  have hwi : Led.is who := hw
  have hm : D.may who 10 = 0 := by rw [Led.may_free h.hk hwi (by omega), if_neg (by omega)]
  have o1 := h.o1
  have o2 := h.o2
  have o3 := h.o3
  have o4 := h.o4
  have o5 := h.o5
  have lrb := hr.lt
  have lvb := hv.lt
  have lgb := hg.sb.lt
  have ltb := hT.lt
  refine calls_of_rx (args := [_, _, _, _, _, _, _, _]) (e := [(0, _), (1, _), (2, _), (3, _), (4, _), (5, _), (6, _), (7, _)]) (n := 95) Tryz.func24 rfl rfl rfl (by kernel_rfl) rfl ?_
  have hC := Ch.refl (fun x => x = q.g.ab ∨ x = q.vb ∨ x = q.gb) w
  have uq := True.intro
  refine RX.seq ?_; refine RX.region ?_; refine RU.lo (L.bx hC rfl fun b1 w1 hb1 le1 hC1 gr1 hz1 hB1 => ?_); refine RU.rd (V.as rfl) ?_; refine RU.rd (V.as rfl) ?_; refine RU.nil ?_; refine RX.seq ?_; refine RX.region ?_
  refine RU.rd (V.mv rfl) ?_; refine RU.rd (V.mv rfl) ?_; refine RU.lo (L.call fn26 rfl (c26 (hr.gr gr1) (hT.gr gr1)) ?_); rintro _ w2 ⟨rfl, gr2⟩; have hC2 := hC1.trans (Ch.of_grow gr2); have hB1 := hB1.gr gr2
  refine RU.rd (V.mv rfl) ?_; refine RU.rd (V.ext rfl rfl) ?_; refine RU.rd (V.ext rfl rfl) ?_; have l3_hB1 := hB1.lt; refine RU.lo (L.al hC2 z80 fun b3 w3 hb3 le3 hC3 gr3 hz3 hB3 => ?_); have hB1 := hB1.gr gr3
  refine RU.lo0 (L.stN hC3 sz80 rfl rfl rfl rfl hB3 rfl le3 fun w4 hC4 ch4 hz4 hB3 => ?_); have hB1 := hB1.ch ch4 (by omega); refine RU.rd (V.as rfl) ?_; refine RU.nil ?_; refine RX.seq ?_; refine RX.block ?_
  refine RX.seq ?_; refine RX.region ?_; refine RU.rd (V.mv rfl) ?_; refine RU.rd (V.notD rfl) ?_; refine RU.rd (V.mv rfl) ?_; refine RU.splitD (fun _ => by contradiction) fun h1 => ?_; refine RU.rdG rfl rfl (V.mv rfl) ?_
  refine RU.rdG rfl rfl (V.eqNil u31 rfl rfl) ?_; refine RU.rd (V.pickF rfl rfl) ?_; refine RU.rd (V.mv rfl) ?_; refine RU.rdG rfl rfl (V.mv rfl) ?_; refine RU.rdG rfl rfl (V.eqNil u32 rfl rfl) ?_
  refine RU.rd (V.pickF rfl rfl) ?_; refine RU.rd (V.mv rfl) ?_; refine RU.rdG rfl rfl (V.mv rfl) ?_; refine RU.rdG rfl rfl (V.lss rfl rfl) ?_; refine RU.rd (V.pickF rfl rfl) ?_; refine RU.rd (V.mv rfl) ?_
  refine RU.splitD (fun _ => by omega) fun h2 => ?_; refine RU.rdG rfl rfl (V.mv rfl) ?_; refine RU.rdG rfl rfl (V.geq rfl rfl) ?_; refine RU.rd (V.pickF rfl rfl) ?_; refine RU.rd (V.mv rfl) ?_
  refine RU.splitD (fun _ => by omega) fun h3 => ?_; refine RU.rdG rfl rfl (V.mv rfl) ?_; refine RU.rdG rfl rfl (V.lss rfl rfl) ?_; refine RU.rd (V.pickF rfl rfl) ?_; refine RU.rd (V.mv rfl) ?_
  refine RU.splitD (fun _ => by omega) fun h4 => ?_; refine RU.rdG rfl rfl (V.mv rfl) ?_; refine RU.rdG rfl rfl (V.gtr rfl rfl) ?_; refine RU.rd (V.pickF rfl rfl) ?_; refine RU.rd (V.as rfl) ?_; refine RU.nil ?_
  refine RX.condF rfl ?_; refine RX.seq ?_; refine RX.region ?_; refine RU.rd (V.mv rfl) ?_; refine RU.rd (V.nck rfl) ?_; refine RU.rd (V.fld0 f90_1 rfl) ?_
  have G4 : Grow w w4 := ((gr1.trans gr2).trans gr3).trans' ch4 (by rintro b hb rfl; omega)
  have hg4 : RGrd w4 q.gb gv rs := hg.gr G4
  have hv4 := hv.gr G4
  have hr4 := hr.gr G4
  refine RU.rd (V.ld s88 rfl (cur hr4) rfl) ?_; refine RU.lo (L.call fn50 rfl (c50 hg4) ?_); rintro _ w5 ⟨rfl, gr5⟩; have hC5 := hC4.trans (Ch.of_grow gr5); have hB3 := hB3.gr gr5; have hB1 := hB1.gr gr5
  have hv4 := hv4.gr gr5; have hr4 := hr4.gr gr5; refine RU.rd (V.geq rfl rfl) ?_; refine RU.rd (V.as rfl) ?_; refine RU.nil ?_; refine RX.condD rfl (fun _ => by omega) fun h5 => ?_; refine RX.skip ?_; refine RX.inBlock ?_
  refine RX.seq ?_; refine RX.region ?_; refine RU.rd (V.mv rfl) ?_; refine RU.rd (V.nck rfl) ?_; refine RU.rd (V.fld0 f90_1 rfl) ?_; refine RU.rd (V.ld s88 rfl (cur hr4) rfl) ?_
  refine RU.lo (L.call fn50 rfl (c50 (hg4.gr gr5)) ?_); rintro _ w6 ⟨rfl, gr6⟩; have hC6 := hC5.trans (Ch.of_grow gr6); have hB3 := hB3.gr gr6; have hB1 := hB1.gr gr6; have hv4 := hv4.gr gr6; have hr4 := hr4.gr gr6
  refine RU.rd (V.as rfl) ?_; refine RU.nil ?_; refine RX.seq ?_; refine RX.seq ?_; refine RX.region ?_; refine RU.rd (V.mv rfl) ?_; refine RU.rd (V.mv rfl) ?_; refine RU.rd (V.mv rfl) ?_
  refine RU.lo (L.call fn51 rfl (c51n hv4 rfl hnn) ?_)
  rintro _ w7 ⟨rfl, gr7⟩
  have hC7 := hC6.trans (.of_grow gr7)
  have G7 := ((G4.trans gr5).trans gr6).trans gr7
  have z7 := G7.size
  replace hB1 := hB1.gr gr7
  refine RU.rd (V.neq rfl rfl) ?_; refine RU.nil ?_; refine RX.condF rfl ?_; refine RX.skip ?_; refine RX.seq ?_; refine RX.seq ?_; refine RX.region ?_; refine RU.rd (V.mv rfl) ?_; refine RU.rd (V.mv rfl) ?_
  refine RU.lo (L.call fn52 rfl (c52 (h.hl.gr G7) h.ho) ?_)
  rintro _ w8 ⟨rfl, ch8, hL8⟩
  have hC8 : Ch (fun x => x = q.g.ab ∨ x = q.vb ∨ x = q.gb) w w8 := hC7.trans' ch8 (fun _ _ h => .inl h)
  have lga : q.g.ab < q.tb := o1 _ (.inr (.inl rfl))
  have hv8 := (h.hv.gr G7).ch ch8 (by omega)
  have hr8 := (h.hr.gr G7).ch ch8 (by omega)
  have hg8 : RGrd w8 q.gb gv rs := (h.hg.gr G7).ch ch8 (fun b hb => by rcases hb with rfl | hb; omega; have := h.o7 b hb; omega)
  replace hB1 := hB1.ch ch8 (by omega)
  clear hg4 hv4 hr hr4 hg hv hl hT hB3
  rw [hm]
  refine RU.rd (V.as rfl) ?_; refine RU.nil ?_; refine RX.seq ?_; refine RX.region ?_; refine RU.rd (V.mv rfl) ?_; refine RU.rd (V.neq rfl rfl) ?_; refine RU.nil ?_; refine RX.condF rfl ?_; refine RX.skip ?_
  refine RX.seq ?_; refine RX.region ?_; refine RU.rd (V.mv rfl) ?_; refine RU.rd (V.mv rfl) ?_; refine RU.rd (V.mv rfl) ?_
  refine RU.lo (L.call fn53 rfl (c53 (t := t) hv8 rfl hnn (by omega)) ?_)
  rintro _ w9 ⟨b9, rfl, ch9, lb9, lb9', hv9, hp9⟩
  have hC9 : Ch (fun x => x = q.g.ab ∨ x = q.vb ∨ x = q.gb) w w9 := hC8.trans' ch9 (fun _ _ h => .inr (.inl h))
  have hr9 := hr8.ch ch9 (by omega)
  have hg9 : RGrd w9 q.gb gv rs := hg8.ch ch9 (fun b hb => by rcases hb with rfl | hb; omega; have := h.o7 b hb; omega)
  replace hB1 := hB1.ch ch9 (by omega)
  clear hr8 hg8 hv8
  refine RU.nil ?_; refine RX.seq ?_
  refine RX.draw (Ch Nil w9) [3, 6] [(0, true), (1, true), (2, true), (3, true), (4, true), (5, true), (6, true), (7, true), (8, true), (9, true), (10, true), (11, false)] mixed (by kernel_rfl) fun w10 gr10 hz10 => ?_
  have hC10 := hC9.trans (Ch.of_grow gr10); have hv9d10 := hv9.gr gr10; have hp9d10 := hp9.gr gr10; have hr9d10 := hr9.gr gr10; have hB1d10 := hB1.gr gr10; refine RD.rz rfl (V.mv rfl) ?_; refine RD.rz rfl (V.nck rfl) ?_
  refine RD.rz rfl (V.fld0 f90_1 rfl) ?_; refine RD.rd rfl rfl gr10 (V.ld s88 rfl (fun _ hS => hr9.gr hS) rfl) ?_; refine RD.rz rfl (V.mv rfl) ?_; refine RD.rz rfl (V.mv rfl) ?_
  refine RD.rd rfl rfl gr10 (V.ldA a40 rfl (fun _ hS => hB1.gr hS) (vs := [_, _, _, _, _, _, _, _, _, _, _, _, _, _, _, _, _, _, _, _, _, _, _, _, _, _, _, _, _, _, _, _]) rfl rfl) ?_; refine RD.rz rfl (V.mv rfl) ?_
  refine RD.rz rfl (V.mv rfl) ?_; refine RD.rz rfl (V.mv rfl) ?_; refine RD.rz rfl (V.bld bf44 z44 rfl rfl) ?_
  have z8 := ch8.size
  have z9 := ch9.size
  have z10 := gr10.size
  refine RD.lf rfl (by kernel_rfl) (L.call fn54 rfl (c54 (b := rs.length) (x := newR who t 0 0 fun _ => 0) (hg9.gr gr10) (by omega) (by omega)) ?_)
  rintro _ w11 ⟨-, ch11, gv', hg11, hf11⟩
  have hpr : putR rs rs.length (newR who t 0 0 fun _ => 0) = rs ++ [newR who t 0 0 fun _ => 0] := by unfold putR; rw [if_neg (by omega)]
  rw [hpr] at hg11
  have hC11 : Ch (fun x => x = q.g.ab ∨ x = q.vb ∨ x = q.gb) w w11 := hC10.trans' ch11 (fun _ _ h => .inr (.inr h))
  have hr11 := (hr9.gr gr10).ch ch11 (by omega)
  have hv11 := (hv9.gr gr10).ch ch11 (by omega)
  have hp11 := (hp9.gr gr10).ch ch11 (by omega)
  have hL11 := ((hL8.ch ch9 (fun x hx hs => by have := o1 x hx; omega)).gr gr10).ch ch11 (fun x hx hs => by have := o1 x hx; omega)
  refine RD.nil ?_; refine RX.seq ?_; refine RX.region ?_; refine RU.rd (V.mv rfl) ?_; refine RU.rd (V.as rfl) ?_; refine RU.rd (V.as rfl) ?_; refine RU.nil ?_
  refine RX.rt Tryz.func24 (by rfl) (ResOk.tmp rfl (ResOk.tmp rfl (ResOk.nil))) ?_
  obtain ⟨r1, r2, r3⟩ := Led.res_ok h.ho h.hl.hl who 10
  have hle : (rs ++ [newR who t 0 0 fun _ => 0]).length = rs.length + 1 := by simp
  have hne : ∀ i, i < rs.length → pkUpd pk rs.length b9 i = pk i := fun i hi => by unfold pkUpd; rw [if_neg (by omega)]
  have hnn' : pkUpd pk rs.length b9 rs.length = b9 := by unfold pkUpd; rw [if_pos rfl]
  have hpl : ∀ i, i < rs.length → q.pb < pk i ∧ pk i < w.heap.size := fun i hi => ⟨h.o6 i hi, hlt _ (.inr (.inr (.inl ⟨i, hi, rfl⟩)))⟩
  refine ⟨b9, gv', by omega, hC11, ⟨hL11, by rw [hle]; exact hv11, fun i hi => ?_, hr11, h.ht.ch hC11 (by omega), hg11, by omega, by rw [r2]; exact h.hk, r1, o1, o2, o3, o4, o5, fun i hi => ?_, fun c hc => ?_, fun i hi hc => ?_, fun i j hi hj e => ?_⟩, fun c hc => ?_⟩
  · rw [hle] at hi
    by_cases e : i = rs.length
    · subst e
      rw [hnn', List.getElem_append_right (Nat.le_refl _)]
      simp only [Nat.sub_self, List.getElem_cons_zero]
      exact hp11
    · have hi' : i < rs.length := by omega
      rw [hne i hi', List.getElem_append_left hi']
      exact (h.hp i hi').ch hC11 (by have := hpl i hi'; omega)
  · rw [hle] at hi
    by_cases e : i = rs.length
    · subst e; rw [hnn']; omega
    · rw [hne i (by omega)]; exact h.o6 i (by omega)
  · have := hf11 c hc; omega
  · rw [hle] at hi
    have := hf11 _ hc
    by_cases e : i = rs.length
    · subst e; rw [hnn'] at this; omega
    · rw [hne i (by omega)] at this; have := hpl i (by omega); omega
  · rw [hle] at hi hj
    by_cases e1 : i = rs.length <;> by_cases e2 : j = rs.length
    · omega
    · subst e1; rw [hnn', hne j (by omega)] at e; have := hpl j (by omega); omega
    · subst e2; rw [hnn', hne i (by omega)] at e; have := hpl i (by omega); omega
    · rw [hne i (by omega), hne j (by omega)] at e; exact h.o9 i j (by omega) (by omega) e
  · have := hf11 c hc; omega
end Go.Proofs.YtmcfbinkofoagaaGreat
