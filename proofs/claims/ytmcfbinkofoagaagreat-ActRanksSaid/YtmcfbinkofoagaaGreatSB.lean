/- Ledger, polls and referenda together. -/
import Derived.Test.YtmcfbinkofoagaaGreatSA
namespace Go.Proofs.YtmcfbinkofoagaaGreat
open Go Go.RowKit Sx Go.Proofs

structure QG where
  pb : Nat
  g : LG
  vb : Nat
  g1 : Nat
  g2 : Nat
  rb : Nat
  tb : Nat
  c : Nat
  sp : List Value
  gb : Nat
/-- What a poll is told of a referendum's state. -/
def polS (x : Rfd) : Int := if x.state = 1 then 0 else x.state
structure QAt (w : World) (q : QG) (pk : Nat → Nat) (gv : Value) (D : Led) (rs : List Rfd) : Prop where
  hl : LedAt w q.g D
  hv : Blk w q.vb (polC pk rs.length ++ [.pointer (some ⟨q.g1, 0, none⟩), .pointer (some ⟨q.g2, 0, none⟩)]) 130
  hp : ∀ i (h : i < rs.length), Blk w (pk i) [.int .i64 rs[i].track, .int .i64 0, .int .i64 0, .int .i64 0, .int .i64 (polS rs[i]), .int .i64 rs[i].fin] 167
  hr : Blk w q.rb [.slice (some ⟨q.tb, 0, none⟩) 3 q.c, .pointer (some ⟨q.gb, 0, none⟩)] 90
  ht : Blk w q.tb (trsC theTracks ++ q.sp) 80
  hg : RGrd w q.gb gv rs
  hn : rs.length ≤ 12
  hk : D.locks = []
  ho : D.Ok
  o1 : ∀ b, q.g.foot b → b < q.tb
  o2 : q.tb < q.gb
  o3 : q.gb < q.rb
  o4 : q.rb < q.vb
  o5 : q.vb < q.pb
  o6 : ∀ i, i < rs.length → q.pb < pk i
  o7 : ∀ b, inSl gv b → q.pb < b
  o8 : ∀ i, i < rs.length → ¬ inSl gv (pk i)
  o9 : ∀ i j, i < rs.length → j < rs.length → pk i = pk j → i = j
/-- Where all that lies. -/
def QG.foot (q : QG) (pk : Nat → Nat) (gv : Value) (n : Nat) (b : Nat) : Prop := q.g.foot b ∨ b = q.vb ∨ (∃ i, i < n ∧ b = pk i) ∨ b = q.rb ∨ b = q.tb ∨ b = q.gb ∨ inSl gv b
section
variable {w w1 : World} {q : QG} {pk : Nat → Nat} {gv : Value} {D : Led} {rs : List Rfd}
theorem QAt.ch {S : Nat → Prop} (h : QAt w q pk gv D rs) (hc : Ch S w w1) (hs : ∀ b, q.foot pk gv rs.length b → ¬ S b) : QAt w1 q pk gv D rs :=
  ⟨h.hl.ch hc fun b hb => hs b (.inl hb), h.hv.ch hc (hs _ (.inr (.inl rfl))), fun i hi => (h.hp i hi).ch hc (hs _ (.inr (.inr (.inl ⟨i, hi, rfl⟩)))), h.hr.ch hc (hs _ (.inr (.inr (.inr (.inl rfl))))),
    h.ht.ch hc (hs _ (.inr (.inr (.inr (.inr (.inl rfl)))))), h.hg.ch hc (fun b hb => hs b (by rcases hb with rfl | hb; exact .inr (.inr (.inr (.inr (.inr (.inl rfl))))); exact .inr (.inr (.inr (.inr (.inr (.inr hb))))))),
    h.hn, h.hk, h.ho, h.o1, h.o2, h.o3, h.o4, h.o5, h.o6, h.o7, h.o8, h.o9⟩
theorem QAt.gr (h : QAt w q pk gv D rs) (hc : Grow w w1) : QAt w1 q pk gv D rs := h.ch hc fun _ _ => id
theorem QAt.lt (h : QAt w q pk gv D rs) : ∀ b, q.foot pk gv rs.length b → b < w.heap.size := by
  rintro b (hb | rfl | ⟨i, hi, rfl⟩ | rfl | rfl | rfl | hb)
  · exact h.hl.lt b hb
  · exact h.hv.lt
  · exact (h.hp i hi).lt
  · exact h.hr.lt
  · exact h.ht.lt
  · exact h.hg.sb.lt
  · exact h.hg.rd.lt b hb
end
theorem Blk.cast {w : World} {b : Nat} {cs cs' : List Value} {T : TypeId} (h : Blk w b cs T) (e : cs = cs') : Blk w b cs' T := e ▸ h
theorem c11 {w : World} {rb gb : Nat} {gv sv : Value} {rs : List Rfd} {b : Int} (hr : Blk w rb [sv, .pointer (some ⟨gb, 0, none⟩)] 90) (hg : RGrd w gb gv rs) (hn : rs.length ≤ 1000) : Calls Tryz.prog 11 #[.pointer (some ⟨rb, 0, none⟩), .int .i64 b] w
    (Ret fun v w' => v = .tuple #[.agg (encR (refAt rs b)).toArray, .bool (decide (0 ≤ b ∧ b < rs.length))] ∧ Grow w w') := by
  refine calls_of_rx (args := [_, _]) (e := [(0, _), (1, _)]) (n := 17) Tryz.func11 rfl rfl rfl (by kernel_rfl) rfl ?_
  have hC := Ch.refl Nil w
  have uq := True.intro
  refine RX.seq ?_; refine RX.region ?_; refine RU.lo (L.al hC z44 fun b1 w1 hb1 le1 hC1 gr1 hz1 hB1 => ?_); refine RU.rd (V.as rfl) ?_; refine RU.nil ?_; refine RX.seq ?_; refine RX.seq ?_; refine RX.region ?_
  refine RU.rd (V.mv rfl) ?_; refine RU.rd (V.eqNil u33 rfl rfl) ?_; refine RU.nil ?_; refine RX.condF rfl ?_; refine RX.skip ?_; refine RX.seq ?_; refine RX.region ?_; refine RU.rd (V.mv rfl) ?_
  refine RU.rd (V.nck rfl) ?_; refine RU.rd (V.fld0 f90_1 rfl) ?_; refine RU.rd (V.ld s88 rfl (cur (hr.gr gr1)) rfl) ?_; refine RU.rd (V.mv rfl) ?_; refine RU.lo (L.call fn29 rfl (c29 (hg.gr gr1) ?_) ?_); assumption
  rintro _ w2 ⟨rfl, gr2⟩; have hC2 := hC1.trans (Ch.of_grow gr2); have hB1 := hB1.gr gr2; refine RU.rd (V.ext rfl rfl) ?_; refine RU.rd (V.ext rfl rfl) ?_
  refine RU.lo0 (L.stN hC2 sz44 rfl rfl rfl rfl hB1 rfl le1 fun w3 hC3 ch3 hz3 hB1 => ?_); refine RU.rd (V.as rfl) ?_; refine RU.nil ?_
  refine RX.rt Tryz.func11 (by rfl) (ResOk.cellA rfl a44 hB1 (Nat.le_of_ble_eq_true rfl) (us := [_, _, _, _, _, _, _, _, _, _, _, _, _, _, _, _, _, _, _, _, _, _, _, _, _, _, _, _, _, _, _, _, _, _, _, _, _, _, _, _, _, _, _, _, _]) rfl (ResOk.tmp rfl (ResOk.nil))) ?_
  exact ⟨rfl, by assumption⟩
/-- Why a referendum is not ongoing. -/
def ongE (rs : List Rfd) (b : Int) : Int := if ¬ (0 ≤ b ∧ b < rs.length) then 4 else if (refAt rs b).state ≠ 1 then 9 else 0
theorem c87 {w : World} {rb gb : Nat} {gv sv : Value} {rs : List Rfd} {b : Int} (hr : Blk w rb [sv, .pointer (some ⟨gb, 0, none⟩)] 90) (hg : RGrd w gb gv rs) (hn : rs.length ≤ 1000) : Calls Tryz.prog 87 #[.pointer (some ⟨rb, 0, none⟩), .int .i64 b] w
    (Ret fun v w' => v = .int .i64 (ongE rs b) ∧ Grow w w') := by
  refine calls_of_rx (args := [_, _]) (e := [(0, _), (1, _)]) (n := 20) Tryz.func87 rfl rfl rfl (by kernel_rfl) rfl ?_
  have hC := Ch.refl Nil w
  have uq := True.intro
  refine RX.seq ?_; refine RX.region ?_; refine RU.rd (V.as rfl) ?_; refine RU.nil ?_; refine RX.seq ?_; refine RX.region ?_; refine RU.rd (V.mv rfl) ?_; refine RU.rd (V.mv rfl) ?_
  refine RU.lo (L.call fn11 rfl (c11 hr hg ?_) ?_); assumption; rintro _ w1 ⟨rfl, gr1⟩; have hC1 := hC.trans (Ch.of_grow gr1); refine RU.rd (V.mv rfl) ?_; refine RU.rd (V.ext rfl rfl) ?_; refine RU.rd (V.ext rfl rfl) ?_
  refine RU.lo (L.al hC1 z44 fun b2 w2 hb2 le2 hC2 gr2 hz2 hB2 => ?_); refine RU.lo0 (L.stN hC2 sz44 rfl rfl rfl rfl hB2 rfl le2 fun w3 hC3 ch3 hz3 hB2 => ?_); refine RU.rd (V.as rfl) ?_; refine RU.nil ?_; refine RX.seq ?_
  refine RX.block ?_; refine RX.seq ?_; refine RX.region ?_; refine RU.rd (V.mv rfl) ?_; refine RU.rd (V.notD rfl) ?_; refine RU.rd (V.as rfl) ?_; refine RU.nil ?_; refine RX.condD rfl (fun h1 => ?_) fun h1 => ?_
  · refine RX.seq ?_; refine RX.region ?_; refine RU.rd (V.as rfl) ?_; refine RU.nil ?_; refine RX.rt Tryz.func87 (by rfl) (ResOk.tmp rfl (ResOk.nil)) ?_
    exact ⟨by simp [tup, ongE, *], by assumption⟩
  · refine RX.seq ?_; refine RX.region ?_; refine RU.rd (V.fld0 f44_0 rfl) ?_; refine RU.rd (V.ld s3 rfl (cur hB2) rfl) ?_; refine RU.rd (V.neq rfl rfl) ?_; refine RU.rd (V.as rfl) ?_; refine RU.nil ?_
    refine RX.condD rfl (fun h2 => ?_) fun h2 => ?_
    · refine RX.seq ?_; refine RX.region ?_; refine RU.rd (V.as rfl) ?_; refine RU.nil ?_; refine RX.rt Tryz.func87 (by rfl) (ResOk.tmp rfl (ResOk.nil)) ?_
      have h1 : 0 ≤ b ∧ b < rs.length := Decidable.not_not.1 ‹¬¬(0 ≤ b ∧ b < (rs.length : Int))›
      refine ⟨?_, by assumption⟩
      unfold ongE; rw [if_neg (by simpa using h1), if_pos (by assumption)]; rfl
    · refine RX.skip ?_; refine RX.inBlock ?_; refine RX.seq ?_; refine RX.region ?_; refine RU.rd (V.as rfl) ?_; refine RU.nil ?_; refine RX.rt Tryz.func87 (by rfl) (ResOk.tmp rfl (ResOk.nil)) ?_
      have h1 : 0 ≤ b ∧ b < rs.length := Decidable.not_not.1 ‹¬¬(0 ≤ b ∧ b < (rs.length : Int))›
      refine ⟨?_, by assumption⟩
      unfold ongE; rw [if_neg (by simpa using h1), if_neg (by assumption)]; rfl
/-- A referendum has ended. -/
def endR (x : Rfd) (s now : Int) : Rfd := { x with state := s, fin := now, ayes := 0, nays := 0, supp := 0 }
theorem set_at (rs : List Rfd) {i j : Nat} (y : Rfd) (h : j < rs.length) (hj : j < (rs.set i y).length) : (rs.set i y)[j] = if i = j then y else rs[j] := by
  rw [List.getElem_set]
set_option maxRecDepth 100000 in
set_option maxHeartbeats 1000000 in
theorem c88 {w : World} {q : QG} {pk : Nat → Nat} {gv : Value} {D : Led} {rs : List Rfd} {b s now : Int} (h : QAt w q pk gv D rs) (hb : 0 ≤ b ∧ b < rs.length) (h1 : (refAt rs b).state = 1) (hf : (refAt rs b).fin = 0) (hs : 2 ≤ s ∧ s ≤ 6) :
    Calls Tryz.prog 88 #[.pointer (some ⟨q.rb, 0, none⟩), .pointer (some ⟨q.vb, 0, none⟩), .int .i64 b, .int .i64 s, .int .i64 now] w
    (Ret fun v w' => ∃ gv', v = .agg #[.int .i64 1, .int .i64 b, .int .i64 s] ∧ Ch (fun x => x = q.gb ∨ x = pk b.toNat) w w' ∧ QAt w' q pk gv' D (rs.set b.toNat (endR (refAt rs b) s now)) ∧ ∀ c, inSl gv' c → w.heap.size ≤ c) := by
  have hr := h.hr
  have hg := h.hg
  have hn := h.hn
  have hv := h.hv
  have hbn : b.toNat < rs.length := by omega
  have hp := h.hp b.toNat hbn
  have hlt := h.lt
  have lgb := hg.sb.lt
  rw [refAt_in hb.1 hbn] at h1 hf ⊢
  have hps : polS rs[b.toNat] = 0 := by unfold polS; rw [if_pos h1]
  rw [hps, hf] at hp
  refine calls_of_rx (args := [_, _, _, _, _]) (e := [(0, _), (1, _), (2, _), (3, _), (4, _)]) (n := 42) Tryz.func88 rfl rfl rfl (by kernel_rfl) rfl ?_
  have hC := Ch.refl (fun x => x = q.gb ∨ x = pk b.toNat) w
  have uq := True.intro
  refine RX.seq ?_; refine RX.region ?_; refine RU.lo (L.al hC z52 fun b1 w1 hb1 le1 hC1 gr1 hz1 hB1 => ?_); refine RU.nil ?_; refine RX.seq ?_; refine RX.region ?_; refine RU.rd (V.mv rfl) ?_; refine RU.rd (V.mv rfl) ?_
  refine RU.lo (L.call fn11 rfl (c11 (hr.gr gr1) (hg.gr gr1) ?_) ?_); omega; rintro _ w2 ⟨rfl, gr2⟩; have hC2 := hC1.trans (Ch.of_grow gr2); have hB1 := hB1.gr gr2; refine RU.rd (V.mv rfl) ?_
  refine RU.rd (V.ext rfl rfl) ?_; refine RU.rd (V.ext rfl rfl) ?_; have l3_hB1 := hB1.lt; refine RU.lo (L.al hC2 z44 fun b3 w3 hb3 le3 hC3 gr3 hz3 hB3 => ?_); have hB1 := hB1.gr gr3
  refine RU.lo0 (L.stN hC3 sz44 rfl rfl rfl rfl hB3 rfl le3 fun w4 hC4 ch4 hz4 hB3 => ?_); have hB1 := hB1.ch ch4 (by omega); refine RU.rd (V.as rfl) ?_; refine RU.nil ?_; refine RX.seq ?_; refine RX.region ?_
  refine RU.rd (V.mv rfl) ?_; refine RU.rd (V.mv rfl) ?_; refine RU.rd (V.mv rfl) ?_; refine RU.rd (V.mv rfl) ?_
  have G4 : Grow w w4 := ((gr1.trans gr2).trans gr3).trans' ch4 (by rintro b hb rfl; omega)
  refine RU.lo (L.call fn107 rfl (c107 (i := b.toNat) (hv.gr G4) hn (by omega) hbn (hp.gr G4)) ?_)
  rintro _ w5 ⟨rfl, gr5⟩
  have hC5 := hC4.trans (.of_grow gr5)
  replace hB1 := hB1.gr gr5
  replace hB3 := hB3.gr gr5
  have lrb := hr.lt
  have lvb := hv.lt
  have hr5 := hr.gr (G4.trans gr5)
  clear hr hv
  have nodraw := True.intro
  refine RU.rd (V.fld0 f44_0 rfl) ?_; refine RU.lo0 (L.stN hC5 sz3 rfl rfl rfl rfl hB3 rfl le3 fun w6 hC6 ch6 hz6 hB3 => ?_); have hB1 := hB1.ch ch6 (by omega); have hr5 := hr5.ch ch6 (by omega)
  refine RU.rd (V.fld0 f44_10 rfl) ?_; refine RU.lo0 (L.stN hC6 sz3 rfl rfl rfl rfl hB3 rfl le3 fun w7 hC7 ch7 hz7 hB3 => ?_); have hB1 := hB1.ch ch7 (by omega); have hr5 := hr5.ch ch7 (by omega)
  refine RU.rd (V.fld0 f44_11 rfl) ?_; refine RU.lo0 (L.stN hC7 sz42 rfl rfl rfl rfl hB3 rfl le3 fun w8 hC8 ch8 hz8 hB3 => ?_); have hB1 := hB1.ch ch8 (by omega); have hr5 := hr5.ch ch8 (by omega); refine RU.nil ?_
  refine RX.seq ?_
  clear nodraw
  replace hB3 := Blk.cast hB3 (cs' := encR (endR (refAt rs b) s now)) (by kernel_rfl)
  rw [refAt_in hb.1 hbn] at hB3
  refine RX.draw (Ch Nil w8) [3, 5] [(0, true), (1, true), (2, true), (3, true), (4, true), (5, true), (6, false)] mixed (by kernel_rfl) fun w9 gr9 hz9 => ?_; have hC9 := hC8.trans (Ch.of_grow gr9); have hB1d9 := hB1.gr gr9
  have hr5d9 := hr5.gr gr9; have hB3d9 := hB3.gr gr9; refine RD.rz rfl (V.mv rfl) ?_; refine RD.rz rfl (V.nck rfl) ?_; refine RD.rz rfl (V.fld0 f90_1 rfl) ?_
  refine RD.rd rfl rfl gr9 (V.ld s88 rfl (fun _ hS => hr5.gr hS) rfl) ?_; refine RD.rz rfl (V.mv rfl) ?_
  refine RD.rd rfl rfl gr9 (V.ldA a44 rfl (fun _ hS => hB3.gr hS) (vs := [_, _, _, _, _, _, _, _, _, _, _, _, _, _, _, _, _, _, _, _, _, _, _, _, _, _, _, _, _, _, _, _, _, _, _, _, _, _, _, _, _, _, _, _, _]) rfl rfl) ?_
  have G8 : Grow w w8 := (((G4.trans gr5).trans' ch6 (by rintro b hb rfl; omega)).trans' ch7 (by rintro b hb rfl; omega)).trans' ch8 (by rintro b hb rfl; omega)
  have G9 := G8.trans gr9
  have z9 := G9.size
  have o1 := h.o1
  have o2 := h.o2
  have o3 := h.o3
  have o4 := h.o4
  have o5 := h.o5
  have o6 := h.o6 b.toNat hbn
  have lpk := hlt (pk b.toNat) (.inr (.inr (.inl ⟨_, hbn, rfl⟩)))
  refine RD.lf rfl (by kernel_rfl) (L.call fn54 rfl (c54 (b := b) (x := endR rs[b.toNat] s now) (hg.gr G9) (by omega) (by omega)) ?_)
  rintro _ w10 ⟨-, ch10, gv', hg10, hf10⟩
  have hpr : putR rs b (endR rs[b.toNat] s now) = rs.set b.toNat (endR rs[b.toNat] s now) := by unfold putR; rw [if_pos hb.2]
  rw [hpr] at hg10
  have hC10 : Ch (fun x => x = q.gb ∨ x = pk b.toNat) w w10 := hC9.trans' ch10 (fun _ _ h => .inl h)
  have h9 := h.gr G9
  have hv10 := h9.hv.ch ch10 (by omega)
  have hp10 := (hp.gr G9).ch ch10 (by omega)
  have hb10 : Blk w10 b1 _ 52 := hB1d9.ch ch10 (by omega)
  clear hB1d9 hB3d9 hr5d9 hB1 hB3 hr5
  refine RD.nil ?_; refine RX.seq ?_; refine RX.region ?_; refine RU.rd (V.mv rfl) ?_; refine RU.rd (V.mv rfl) ?_; refine RU.rd (V.mv rfl) ?_; refine RU.rd (V.mv rfl) ?_
  have lb9 := hf10
  refine RU.lo (L.call fn51 rfl (c51 (i := b.toNat) (tr := rs[b.toNat].track) hv10 hn (by omega) hbn hp10 hs) ?_)
  rintro _ w11 ⟨rfl, ch11, hp11⟩
  have hC11 : Ch (fun x => x = q.gb ∨ x = pk b.toNat) w w11 := hC10.trans' ch11 (fun _ _ h => .inr h)
  have hb11 := hb10.ch ch11 (by omega)
  clear hb10
  refine RU.nil ?_; refine RX.seq ?_; refine RX.region ?_; refine RU.rd (V.mv rfl) ?_; refine RU.rd (V.mv rfl) ?_; refine RU.rd (V.bld bf52 z52 rfl rfl) ?_
  refine RU.lo0 (L.stN hC11 sz52 rfl rfl rfl rfl hb11 rfl le1 fun w12 hC12 ch12 hz12 hb11 => ?_); have hp11 := hp11.ch ch12 (by omega); refine RU.nil ?_
  refine RX.rt Tryz.func88 (by rfl) (ResOk.cellA rfl a52 hb11 (Nat.le_of_ble_eq_true rfl) (us := [_, _, _]) rfl (ResOk.nil)) ?_
  have hlo : ∀ c, inSl gv' c → w.heap.size ≤ c := fun c hc => by have := hf10 c hc; omega
  have hb1w : b1 < w9.heap.size := by have := G9.size; have := gr1.size; have := gr2.size; have := gr3.size; have := gr5.size; omega
  refine ⟨gv', rfl, hC12, ?_, hlo⟩
  have hle : (rs.set b.toNat (endR rs[b.toNat] s now)).length = rs.length := List.length_set ..
  refine ⟨h.hl.ch hC12 (fun x hx hs => by have := o1 x hx; omega), by rw [hle]; exact h.hv.ch hC12 (by omega), fun i hi => ?_, h.hr.ch hC12 (by omega), h.ht.ch hC12 (by omega),
    (hg10.ch ch11 (fun c hc => by rcases hc with rfl | hc; omega; have := hlo c hc; omega)).ch ch12 (fun c hc => by rcases hc with rfl | hc; omega; have := hf10 c hc; omega),
    by rw [hle]; exact hn, h.hk, h.ho, o1, o2, o3, o4, o5, fun i hi => h.o6 i (by rw [← hle]; exact hi), fun c hc => by have := hlo c hc; omega,
    fun i hi hc => by have := hlo _ hc; have := hlt (pk i) (.inr (.inr (.inl ⟨i, by rw [← hle]; exact hi, rfl⟩))); omega, fun i j hi hj => h.o9 i j (by rw [← hle]; exact hi) (by rw [← hle]; exact hj)⟩
  have hi' : i < rs.length := by rw [← hle]; exact hi
  rw [set_at rs _ hi' hi]
  by_cases e : b.toNat = i
  · subst e
    rw [if_pos rfl]
    have : polS (endR rs[b.toNat] s now) = s := by unfold polS endR; rw [if_neg (by dsimp only; omega)]
    rw [this]
    exact hp11
  · rw [if_neg e]
    exact (h.hp i hi').ch hC12 (by
      have := h.o6 i hi'
      rintro (h1 | h1)
      · omega
      · exact e (h.o9 _ _ hbn hi' h1.symm))
end Go.Proofs.YtmcfbinkofoagaaGreat
