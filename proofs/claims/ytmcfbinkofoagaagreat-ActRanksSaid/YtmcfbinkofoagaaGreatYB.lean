/- The document's referenda: one is submitted. -/
import Derived.Test.YtmcfbinkofoagaaGreatYA
namespace Go.Proofs.YtmcfbinkofoagaaGreat
open Go Go.RowKit Sx Go.Proofs

structure YG where
  x : XG
  yb : Nat
  yp : Nat
  rv : Value
  zb : Nat
  zt : Nat
  zc : Nat
  zsp : List Value
structure YAt (w : World) (y : YG) (zv : Value) (D : Led) (rs : List Rfd) : Prop where
  hx : XAt w y.x D
  hy : Blk w y.yb [.slice (some ⟨y.yp, 0, none⟩) 12 12, y.rv] 134
  hp : Blk w y.yp (rws encP (polP rs)) 171
  hz : Blk w y.zb [.slice (some ⟨y.zt, 0, none⟩) 3 y.zc, zv] 98
  ht : Blk w y.zt (trsC theTracks ++ y.zsp) 80
  hR : Own (y.yb + 1) w 45 44 zv (rws encR rs)
  hn : rs.length ≤ 12
  ho : D.Ok
  o1 : y.x.ab < y.zt
  o1' : y.x.xb < y.zt
  o2 : y.zt < y.zb
  o3 : y.zb < y.yp
  o4 : y.yp < y.yb
def YG.foot (y : YG) (zv : Value) (b : Nat) : Prop := b = y.x.xb ∨ b = y.x.ab ∨ b = y.yb ∨ b = y.yp ∨ b = y.zb ∨ b = y.zt ∨ inSl zv b
section
variable {w w1 : World} {y : YG} {zv : Value} {D : Led} {rs : List Rfd}
theorem YAt.ch {S : Nat → Prop} (h : YAt w y zv D rs) (hc : Ch S w w1) (hs : ∀ b, y.foot zv b → ¬ S b) : YAt w1 y zv D rs :=
  ⟨h.hx.ch hc (hs _ (.inl rfl)) (hs _ (.inr (.inl rfl))), h.hy.ch hc (hs _ (.inr (.inr (.inl rfl)))), h.hp.ch hc (hs _ (.inr (.inr (.inr (.inl rfl))))), h.hz.ch hc (hs _ (.inr (.inr (.inr (.inr (.inl rfl)))))),
    h.ht.ch hc (hs _ (.inr (.inr (.inr (.inr (.inr (.inl rfl))))))), h.hR.ch hc (fun b hb => hs b (.inr (.inr (.inr (.inr (.inr (.inr hb))))))), h.hn, h.ho, h.o1, h.o1', h.o2, h.o3, h.o4⟩
theorem YAt.gr (h : YAt w y zv D rs) (hc : Grow w w1) : YAt w1 y zv D rs := h.ch hc fun _ _ => id
end
theorem rwsR_len (rs : List Rfd) : (rws encR rs).length = rs.length * 45 := rws_length encR_length rs
/-- What is submitted. -/
def newR (who t sub after : Int) (sum : Nat → Int) : Rfd := ⟨1, t, sum, after, sub, who, true, -1, -1, -1, 0, 0, 0, 0⟩
set_option maxRecDepth 100000 in
theorem c25 {w : World} {y : YG} {zv : Value} {D : Led} {rs : List Rfd} {who t : Int} (h : YAt w y zv D rs) (hw : 0 ≤ who ∧ who < 10) (ht : 0 ≤ t ∧ t < 3) (hn : rs.length < 12) (hf : 10 ≤ (D.at who).1) :
    Calls Tryz.prog 25 #[.pointer (some ⟨y.zb, 0, none⟩), .pointer (some ⟨y.x.xb, 0, none⟩), .pointer (some ⟨y.yb, 0, none⟩), .int .i64 who, .int .i64 t, .agg #[.int .u8 0, .int .u8 0, .int .u8 0, .int .u8 0, .int .u8 0, .int .u8 0, .int .u8 0, .int .u8 0, .int .u8 0, .int .u8 0, .int .u8 0, .int .u8 0, .int .u8 0, .int .u8 0, .int .u8 0, .int .u8 0, .int .u8 0, .int .u8 0, .int .u8 0, .int .u8 0, .int .u8 0, .int .u8 0, .int .u8 0, .int .u8 0, .int .u8 0, .int .u8 0, .int .u8 0, .int .u8 0, .int .u8 0, .int .u8 0, .int .u8 0, .int .u8 0], .int .i64 0, .int .i64 0] w
    (Ret fun _ w' => ∃ zv', Ch (fun b => b = y.x.ab ∨ b = y.yp ∨ b = y.zb ∨ inSl zv b) w w' ∧ YAt w' y zv' (D.res who 10) (rs ++ [newR who t 0 0 fun _ => 0]) ∧ ∀ b, inSl zv' b → inSl zv b ∨ w.heap.size ≤ b) := by
  have hz := h.hz
  have hy := h.hy
  have hp := h.hp
  have o1 := h.o1
  have o2 := h.o2
  have o3 := h.o3
  have o4 := h.o4
  have hwi : Led.is who := hw
  have hRl : ∃ p c, zv = .slice p rs.length c := by
    obtain ⟨p, n, c, e⟩ := h.hR.isSl
    have h1 := h.hR
    have h2 := rwsR_len rs
    rw [e] at h1
    have h3 := Rd.len (Own.rdN h1 h2 (by decide))
    subst h3
    exact ⟨p, c, e⟩
  obtain ⟨pz, cz, rfl⟩ := hRl
  have hm : D.may who 10 = 0 := by rw [Led.may_free h.hx.hk hwi (by omega), if_neg (by omega)]
  refine calls_of_rx (args := [_, _, _, _, _, _, _, _]) (e := [(0, _), (1, _), (2, _), (3, _), (4, _), (5, _), (6, _), (7, _)]) (n := 91) Tryz.func25 rfl rfl rfl (by kernel_rfl) rfl ?_
  have hC := Ch.refl (fun b => b = y.x.ab ∨ b = y.yp ∨ b = y.zb ∨ inSl (.slice pz rs.length cz) b) w
  have uq := True.intro
  refine RX.seq ?_; refine RX.region ?_; refine RU.lo (L.bx hC rfl fun b1 w1 hb1 le1 hC1 gr1 hz1 hB1 => ?_); refine RU.rd (V.as rfl) ?_; refine RU.rd (V.as rfl) ?_; refine RU.nil ?_; refine RX.seq ?_; refine RX.block ?_
  refine RX.seq ?_; refine RX.region ?_; refine RU.rd (V.mv rfl) ?_; refine RU.lo (L.call fn55 rfl (c55) ?_); rintro _ w2 ⟨rfl, hq2⟩; rw [hq2]; clear hq2 w2; refine RU.rd (V.notD rfl) ?_; refine RU.rd (V.mv rfl) ?_
  refine RU.splitD (fun _ => by contradiction) fun h1 => ?_; refine RU.rdG rfl rfl (V.mv rfl) ?_; refine RU.rdG rfl rfl (V.lss rfl rfl) ?_; refine RU.rd (V.pickF rfl rfl) ?_; refine RU.rd (V.mv rfl) ?_
  refine RU.splitD (fun _ => by omega) fun h2 => ?_; refine RU.rdG rfl rfl (V.mv rfl) ?_; refine RU.rdG rfl rfl (V.mv rfl) ?_; refine RU.rdG rfl rfl (V.nck rfl) ?_; refine RU.rdG rfl rfl (V.fld0 f98_0 rfl) ?_
  refine RU.rdG rfl rfl (V.ld s67 rfl (cur (hz.gr gr1)) rfl) ?_; refine RU.rdG rfl rfl (V.len u67 rfl) ?_; refine RU.rdG rfl rfl (V.geq rfl rfl) ?_; refine RU.rd (V.pickF rfl rfl) ?_; refine RU.rd (V.mv rfl) ?_
  refine RU.splitD (fun _ => by omega) fun h3 => ?_; refine RU.rdG rfl rfl (V.mv rfl) ?_; refine RU.rdG rfl rfl (V.lss rfl rfl) ?_; refine RU.rd (V.pickF rfl rfl) ?_; refine RU.rd (V.mv rfl) ?_
  refine RU.splitD (fun _ => by omega) fun h4 => ?_; refine RU.rdG rfl rfl (V.mv rfl) ?_; refine RU.rdG rfl rfl (V.gtr rfl rfl) ?_; refine RU.rd (V.pickF rfl rfl) ?_; refine RU.rd (V.as rfl) ?_; refine RU.nil ?_
  refine RX.condF rfl ?_; refine RX.seq ?_; refine RX.region ?_; refine RU.rd (V.mv rfl) ?_; refine RU.rd (V.nck rfl) ?_; refine RU.rd (V.fld0 f98_1 rfl) ?_; refine RU.rd (V.ld s96 rfl (cur (hz.gr gr1)) rfl) ?_
  refine RU.rd (V.len u96 rfl) ?_; refine RU.rd (V.geq rfl rfl) ?_; refine RU.rd (V.as rfl) ?_; refine RU.nil ?_; refine RX.condD rfl (fun _ => by omega) fun h5 => ?_; refine RX.seq ?_; refine RX.region ?_
  refine RU.rd (V.mv rfl) ?_; refine RU.rd (V.mv rfl) ?_; refine RU.rd (V.nck rfl) ?_; refine RU.rd (V.fld0 f98_1 rfl) ?_; refine RU.rd (V.ld s96 rfl (cur (hz.gr gr1)) rfl) ?_; refine RU.rd (V.len u96 rfl) ?_
  have lxa := h.hx.ha.lt
  have lyp := hp.lt
  have lzb := hz.lt
  refine RU.lo (L.call fn56 rfl (c56n (hy.gr gr1) (hp.gr gr1) rfl hn) ?_)
  rintro _ _ ⟨rfl, rfl⟩
  refine RU.rd (V.as rfl) ?_; refine RU.nil ?_; refine RX.condF rfl ?_; refine RX.skip ?_; refine RX.inBlock ?_; refine RX.seq ?_; refine RX.region ?_; refine RU.rd (V.mv rfl) ?_; refine RU.rd (V.mv rfl) ?_
  refine RU.lo (L.call fn57 rfl (c57 (h.gr gr1).hx h.ho) ?_)
  rintro _ w2 ⟨rfl, ch2, hX2⟩
  have hC2 : Ch (fun b => b = y.x.ab ∨ b = y.yp ∨ b = y.zb ∨ inSl (.slice pz rs.length cz) b) w w2 := hC1.trans' ch2 (fun _ _ h => .inl h)
  have hz2 := (hz.gr gr1).ch ch2 (by omega)
  have hy2 := (hy.gr gr1).ch ch2 (by omega)
  have hp2 := (hp.gr gr1).ch ch2 (by omega)
  replace hB1 := hB1.ch ch2 (by omega)
  rw [hm]
  clear hz
  refine RU.rd (V.as rfl) ?_; refine RU.nil ?_; refine RX.seq ?_; refine RX.seq ?_; refine RX.region ?_; refine RU.rd (V.mv rfl) ?_; refine RU.rd (V.neq rfl rfl) ?_; refine RU.nil ?_; refine RX.condF rfl ?_
  refine RX.skip ?_; refine RX.seq ?_; refine RX.region ?_; refine RU.rd (V.mv rfl) ?_; refine RU.rd (V.nck rfl) ?_; refine RU.rd (V.fld0 f98_1 rfl) ?_; refine RU.rd (V.ld s96 rfl (cur hz2) rfl) ?_
  refine RU.rd (V.len u96 rfl) ?_; refine RU.rd (V.as rfl) ?_; refine RU.nil ?_; refine RX.seq ?_; refine RX.region ?_; refine RU.rd (V.mv rfl) ?_; refine RU.rd (V.mv rfl) ?_; refine RU.rd (V.mv rfl) ?_
  refine RU.lo (L.call fn58 rfl (c58 (x := newR who t 0 0 fun _ => 0) hy2 hp2 rfl hn (by omega) rfl rfl rfl) ?_)
  rintro _ w3 ⟨rfl, ch3, hp3⟩
  have hC3 : Ch (fun b => b = y.x.ab ∨ b = y.yp ∨ b = y.zb ∨ inSl (.slice pz rs.length cz) b) w w3 := hC2.trans' ch3 (fun _ _ h => .inr (.inl h))
  have hz3 := hz2.ch ch3 (by omega)
  replace hB1 := hB1.ch ch3 (by omega)
  clear hz2 hy2 hp2
  refine RU.nil ?_; refine RX.seq ?_
  refine RX.draw (Ch Nil w3) [4, 6] [(0, true), (1, true), (2, true), (3, true), (4, true), (5, true), (6, true), (7, true), (8, true), (9, true), (10, true), (11, false), (12, false), (13, true), (14, true), (15, false)] mixed (by kernel_rfl) fun w4 gr4 hz4 => ?_
  have hC4 := hC3.trans (Ch.of_grow gr4); have hp3d4 := hp3.gr gr4; have hz3d4 := hz3.gr gr4; have hB1d4 := hB1.gr gr4; refine RD.rz rfl (V.mv rfl) ?_; refine RD.rz rfl (V.mv rfl) ?_; refine RD.rz rfl (V.nck rfl) ?_
  refine RD.rz rfl (V.fld0 f98_1 rfl) ?_; refine RD.rd rfl rfl gr4 (V.ld s96 rfl (fun _ hS => hz3.gr hS) rfl) ?_; refine RD.rz rfl (V.mv rfl) ?_
  refine RD.rd rfl rfl gr4 (V.ldA a40 rfl (fun _ hS => hB1.gr hS) (vs := [_, _, _, _, _, _, _, _, _, _, _, _, _, _, _, _, _, _, _, _, _, _, _, _, _, _, _, _, _, _, _, _]) rfl rfl) ?_; refine RD.rz rfl (V.mv rfl) ?_
  refine RD.rz rfl (V.mv rfl) ?_; refine RD.rz rfl (V.mv rfl) ?_; refine RD.rz rfl (V.bld bf44 z44 rfl rfl) ?_; have l5_hp3d4 := hp3d4.lt; have l5_hz3d4 := hz3d4.lt; have l5_hB1d4 := hB1d4.lt
  refine RD.lo rfl (L.bsl hC4 e96 z44 rfl rfl rfl rfl fun b5 w5 hb5 le5 hC5 gr5 hz5 hB5 => ⟨gr4.trans (Ch.of_grow gr5), ?_⟩); have hS5 := gr4.trans (Ch.of_grow gr5); have hp3d4a5 := hp3d4.gr gr5
  have hz3d4a5 := hz3d4.gr gr5; have hB1d4a5 := hB1d4.gr gr5
  have hR0 := h.hR
  have lyb := h.hy.lt
  have hRn : ∀ b, inSl (.slice pz rs.length cz) b → y.yb < b ∧ b < w.heap.size := fun b hb => ⟨(hR0.lt b hb).1, (hR0.lt b hb).2⟩
  have ne0 := h.hx.ne
  have o1' := h.o1'
  have hR5 := ((((hR0.gr gr1).ch ch2 (fun b hb e => by have := hRn b hb; omega)).ch ch3 (fun b hb e => by have := hRn b hb; omega)).gr gr4).gr gr5
  have lr := rwsR_len rs
  have hBn := Blk.cast (w := w5) (b := b5) (T := 44) hB5 (cs' := encR (newR who t 0 0 fun _ => 0)) (by kernel_rfl)
  refine RD.lf rfl (by kernel_rfl) (L.appS hC5 e96 u96 z44 rfl by44 rfl rfl hR5 (by omega) (show Rd w5 45 (.slice (some ⟨b5, 0, none⟩) 1 1) 1 (encR (newR who t 0 0 fun _ => 0)) from .some (n := 1) hBn (Nat.le_refl _) rfl) rfl rfl (by rw [lr, encR_length]; omega) (fun b _ hb => .inr (.inr (.inr hb))) fun v' w6 hC6 ch6 hO6 hin6 => ?_)
  have hz6 := hz3d4a5.ch ch6 (fun hb => by have := hRn _ hb; omega)
  have eo : rws encR rs ++ encR (newR who t 0 0 fun _ => 0) = rws encR (rs ++ [newR who t 0 0 fun _ => 0]) := by rw [rws_append]; simp [rws]
  rw [eo] at hO6
  obtain ⟨pu, nu, cu, rfl⟩ := hO6.isSl
  refine RD.rz rfl (V.nck rfl) ?_; refine RD.rz rfl (V.fld0 f98_1 rfl) ?_
  refine RD.lf0 rfl (by kernel_rfl) (L.st hC6 sz96 rfl rfl rfl rfl hz6 (Nat.le_refl 2) (.inr (.inr (.inr (.inl rfl)))) fun w7 hC7 ch7 hz7 hB7 => ?_)
  refine RD.nil ?_; refine RX.seq ?_; refine RX.region ?_; refine RU.rd (V.mv rfl) ?_; refine RU.rd (V.as rfl) ?_; refine RU.rd (V.as rfl) ?_; refine RU.nil ?_
  refine RX.rt Tryz.func25 (by rfl) (ResOk.tmp rfl (ResOk.tmp rfl (ResOk.nil))) ?_
  have hin : ∀ b, inSl (.slice pu nu cu) b → inSl (.slice pz rs.length cz) b ∨ w.heap.size ≤ b := fun b hb => by
    rcases hin6 b hb with h | h
    · exact .inl h
    · exact .inr (by omega)
  have hRm : ∀ b, inSl (.slice pu nu cu) b → y.yb < b := fun b hb => by
    rcases hin b hb with h | h
    · exact (hRn b h).1
    · omega
  obtain ⟨r1, r2, r3⟩ := Led.res_ok h.ho h.hx.hl who 10
  refine ⟨_, hC7, ⟨?_, ?_, ?_, ?_, ?_, ?_, by simp; omega, r1, o1, o1', o2, o3, o4⟩, hin⟩
  · refine (((((hX2.ch ch3 ?_ ?_).gr gr4).gr gr5).ch ch6 (fun hb => ?_) (fun hb => ?_)).ch ch7 ?_ ?_)
    all_goals first | omega | (have := hRn _ hb; omega)
  · refine h.hy.ch hC7 ?_
    rintro (hb | hb | hb | hb)
    all_goals first | omega | (have := hRn _ hb; omega)
  · exact (((hp3.gr gr4).gr gr5).ch ch6 (fun hb => by have := hRn _ hb; omega)).ch ch7 (by omega)
  · exact hB7
  · refine h.ht.ch hC7 ?_
    rintro (hb | hb | hb | hb)
    all_goals first | omega | (have := hRn _ hb; omega)
  · exact hO6.ch ch7 (fun b hb e => by have := hRm b hb; omega)
end Go.Proofs.YtmcfbinkofoagaaGreat
