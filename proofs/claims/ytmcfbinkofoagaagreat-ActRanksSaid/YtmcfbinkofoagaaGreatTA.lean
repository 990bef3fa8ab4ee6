/- Curves and tracks that may be. -/
import Derived.Test.YtmcfbinkofoagaaGreatLI
namespace Go.Proofs.YtmcfbinkofoagaaGreat
open Go Go.RowKit Sx Go.Proofs

structure Crv where
  k : Int
  a : Int
  b : Int
  c : Int
  d : Int
structure Trk where
  most : Int
  dep : Int
  prep : Int
  dec : Int
  conf : Int
  enact : Int
  app : Crv
  sup : Crv
  cap : Int
  rank : Int
def crC (c : Crv) : List Value := [.int .i64 c.k, .int .i64 c.a, .int .i64 c.b, .int .i64 c.c, .int .i64 c.d]
def trC (t : Trk) : List Value := [.int .i64 t.most, .int .i64 t.dep, .int .i64 t.prep, .int .i64 t.dec, .int .i64 t.conf, .int .i64 t.enact,
  .int .i64 t.app.k, .int .i64 t.app.a, .int .i64 t.app.b, .int .i64 t.app.c, .int .i64 t.app.d, .int .i64 t.sup.k, .int .i64 t.sup.a, .int .i64 t.sup.b, .int .i64 t.sup.c, .int .i64 t.sup.d, .int .i64 t.cap, .int .i64 t.rank]
theorem trC_length (t : Trk) : (trC t).length = 18 := rfl
/-- A straight curve that may be. -/
def Crv.Ok (c : Crv) : Prop := c.k = 1 ∧ 0 ≤ c.b ∧ c.b ≤ c.a ∧ c.a ≤ 1000000000 ∧ 1 ≤ c.c ∧ c.c ≤ 1000000000 ∧ c.d = 0
structure Trk.Ok (t : Trk) : Prop where
  most : 1 ≤ t.most ∧ t.most ≤ 12
  dep : 0 ≤ t.dep ∧ t.dep ≤ 1073741824
  cap : 0 ≤ t.cap ∧ t.cap ≤ 1073741824
  prep : 0 ≤ t.prep ∧ t.prep ≤ 1000
  conf : 0 ≤ t.conf ∧ t.conf ≤ 1000
  enact : 0 ≤ t.enact ∧ t.enact ≤ 1000
  dec : 1 ≤ t.dec ∧ t.dec ≤ 1000
  app : t.app.Ok
  sup : t.sup.Ok
  rank : 0 ≤ t.rank ∧ t.rank ≤ 2

theorem c70 {n a b : Int} {w : World} : Calls Tryz.prog 70 #[.int .i64 n, .int .i64 a, .int .i64 b] w (Ret fun v w' => v = .bool (decide (a ≤ n ∧ n ≤ b)) ∧ w' = w) := by
  refine calls_of_rx (args := [_, _, _]) (e := [(0, _), (1, _), (2, _)]) (n := 15) Tryz.func70 rfl rfl rfl (by kernel_rfl) rfl ?_
  have hC := Ch.refl Nil w
  refine RX.seq ?_; refine RX.region ?_; refine RU.rd (V.as rfl) ?_; refine RU.nil ?_; refine RX.seq ?_; refine RX.region ?_; refine RU.rd (V.mv rfl) ?_; refine RU.rd (V.mv rfl) ?_; refine RU.rd (V.geq rfl rfl) ?_
  refine RU.rd (V.mv rfl) ?_; refine RU.splitD (fun h1 => ?_) fun h1 => ?_
  · refine RU.rdG rfl rfl (V.mv rfl) ?_; refine RU.rdG rfl rfl (V.mv rfl) ?_; refine RU.rdG rfl rfl (V.leq rfl rfl) ?_; refine RU.rd (V.pickT rfl rfl) ?_; refine RU.rd (V.as rfl) ?_; refine RU.nil ?_
    refine RX.rt Tryz.func70 (by rfl) (ResOk.tmp rfl (ResOk.nil)) ?_; simp [tup, *]
  · refine RU.sk rfl rfl rfl ?_; refine RU.sk rfl rfl rfl ?_; refine RU.sk rfl rfl rfl ?_; refine RU.rd (V.pickF rfl rfl) ?_; refine RU.rd (V.as rfl) ?_; refine RU.nil ?_
    refine RX.rt Tryz.func70 (by rfl) (ResOk.tmp rfl (ResOk.nil)) ?_; simp [tup, *]
theorem c101 {n a b : Int} {w : World} : Calls Tryz.prog 101 #[.int .i64 n, .int .i64 a, .int .i64 b] w (Ret fun v w' => v = .bool (decide (a ≤ n ∧ n ≤ b)) ∧ w' = w) := by
  refine calls_of_rx (args := [_, _, _]) (e := [(0, _), (1, _), (2, _)]) (n := 15) Tryz.func101 rfl rfl rfl (by kernel_rfl) rfl ?_
  have hC := Ch.refl Nil w
  refine RX.seq ?_; refine RX.region ?_; refine RU.rd (V.as rfl) ?_; refine RU.nil ?_; refine RX.seq ?_; refine RX.region ?_; refine RU.rd (V.mv rfl) ?_; refine RU.rd (V.mv rfl) ?_; refine RU.rd (V.geq rfl rfl) ?_
  refine RU.rd (V.mv rfl) ?_; refine RU.splitD (fun h1 => ?_) fun h1 => ?_
  · refine RU.rdG rfl rfl (V.mv rfl) ?_; refine RU.rdG rfl rfl (V.mv rfl) ?_; refine RU.rdG rfl rfl (V.leq rfl rfl) ?_; refine RU.rd (V.pickT rfl rfl) ?_; refine RU.rd (V.as rfl) ?_; refine RU.nil ?_
    refine RX.rt Tryz.func101 (by rfl) (ResOk.tmp rfl (ResOk.nil)) ?_; simp [tup, *]
  · refine RU.sk rfl rfl rfl ?_; refine RU.sk rfl rfl rfl ?_; refine RU.sk rfl rfl rfl ?_; refine RU.rd (V.pickF rfl rfl) ?_; refine RU.rd (V.as rfl) ?_; refine RU.nil ?_
    refine RX.rt Tryz.func101 (by rfl) (ResOk.tmp rfl (ResOk.nil)) ?_; simp [tup, *]
theorem c73 {n a b : Int} {w : World} : Calls Tryz.prog 73 #[.int .i64 n, .int .i64 a, .int .i64 b] w (Ret fun v w' => v = .bool (decide (a ≤ n ∧ n ≤ b)) ∧ w' = w) := by
  refine calls_of_rx (args := [_, _, _]) (e := [(0, _), (1, _), (2, _)]) (n := 15) Tryz.func73 rfl rfl rfl (by kernel_rfl) rfl ?_
  have hC := Ch.refl Nil w
  refine RX.seq ?_; refine RX.region ?_; refine RU.rd (V.as rfl) ?_; refine RU.nil ?_; refine RX.seq ?_; refine RX.region ?_; refine RU.rd (V.mv rfl) ?_; refine RU.rd (V.mv rfl) ?_; refine RU.rd (V.geq rfl rfl) ?_
  refine RU.rd (V.mv rfl) ?_; refine RU.splitD (fun h1 => ?_) fun h1 => ?_
  · refine RU.rdG rfl rfl (V.mv rfl) ?_; refine RU.rdG rfl rfl (V.mv rfl) ?_; refine RU.rdG rfl rfl (V.leq rfl rfl) ?_; refine RU.rd (V.pickT rfl rfl) ?_; refine RU.rd (V.as rfl) ?_; refine RU.nil ?_
    refine RX.rt Tryz.func73 (by rfl) (ResOk.tmp rfl (ResOk.nil)) ?_; simp [tup, *]
  · refine RU.sk rfl rfl rfl ?_; refine RU.sk rfl rfl rfl ?_; refine RU.sk rfl rfl rfl ?_; refine RU.rd (V.pickF rfl rfl) ?_; refine RU.rd (V.as rfl) ?_; refine RU.nil ?_
    refine RX.rt Tryz.func73 (by rfl) (ResOk.tmp rfl (ResOk.nil)) ?_; simp [tup, *]
theorem c102 {n a b : Int} {w : World} : Calls Tryz.prog 102 #[.int .i64 n, .int .i64 a, .int .i64 b] w (Ret fun v w' => v = .bool (decide (a ≤ n ∧ n ≤ b)) ∧ w' = w) := by
  refine calls_of_rx (args := [_, _, _]) (e := [(0, _), (1, _), (2, _)]) (n := 15) Tryz.func102 rfl rfl rfl (by kernel_rfl) rfl ?_
  have hC := Ch.refl Nil w
  refine RX.seq ?_; refine RX.region ?_; refine RU.rd (V.as rfl) ?_; refine RU.nil ?_; refine RX.seq ?_; refine RX.region ?_; refine RU.rd (V.mv rfl) ?_; refine RU.rd (V.mv rfl) ?_; refine RU.rd (V.geq rfl rfl) ?_
  refine RU.rd (V.mv rfl) ?_; refine RU.splitD (fun h1 => ?_) fun h1 => ?_
  · refine RU.rdG rfl rfl (V.mv rfl) ?_; refine RU.rdG rfl rfl (V.mv rfl) ?_; refine RU.rdG rfl rfl (V.leq rfl rfl) ?_; refine RU.rd (V.pickT rfl rfl) ?_; refine RU.rd (V.as rfl) ?_; refine RU.nil ?_
    refine RX.rt Tryz.func102 (by rfl) (ResOk.tmp rfl (ResOk.nil)) ?_; simp [tup, *]
  · refine RU.sk rfl rfl rfl ?_; refine RU.sk rfl rfl rfl ?_; refine RU.sk rfl rfl rfl ?_; refine RU.rd (V.pickF rfl rfl) ?_; refine RU.rd (V.as rfl) ?_; refine RU.nil ?_
    refine RX.rt Tryz.func102 (by rfl) (ResOk.tmp rfl (ResOk.nil)) ?_; simp [tup, *]
theorem c71 {c : Crv} {w : World} (h : c.Ok) : Calls Tryz.prog 71 #[.agg #[.int .i64 c.k, .int .i64 c.a, .int .i64 c.b, .int .i64 c.c, .int .i64 c.d]] w (Ret fun v w' => v = .bool true ∧ Grow w w') := by
  obtain ⟨h1, h2, h3, h4, h5, h6, h7⟩ := h
  refine calls_of_rx (args := [_]) (e := [(0, _)]) (n := 57) Tryz.func71 rfl rfl rfl (by kernel_rfl) rfl ?_
  have hC := Ch.refl Nil w
  refine RX.seq ?_; refine RX.region ?_; refine RU.lo (L.bx hC rfl fun b1 w1 hb1 le1 hC1 gr1 hz1 hB1 => ?_); refine RU.rd (V.as rfl) ?_; refine RU.nil ?_; refine RX.seq ?_; refine RX.region ?_
  refine RU.rd (V.fld0 f78_1 rfl) ?_; refine RU.rd (V.ld s3 rfl (cur hB1) rfl) ?_; refine RU.lo (L.call fn101 rfl (c101) ?_); rintro _ w2 ⟨rfl, hq2⟩; rw [hq2]; clear hq2 w2; refine RU.rd (V.mv rfl) ?_
  refine RU.splitD (fun h8 => ?_) (fun _ => by omega); refine RU.rdG rfl rfl (V.fld0 f78_2 rfl) ?_; refine RU.rdG rfl rfl (V.ld s3 rfl (cur hB1) rfl) ?_; refine RU.rdG rfl rfl (V.fld0 f78_1 rfl) ?_
  refine RU.rdG rfl rfl (V.ld s3 rfl (cur hB1) rfl) ?_; refine RU.loG rfl rfl (L.call fn101 rfl (c101) ?_); rintro _ w2 ⟨rfl, hq2⟩; rw [hq2]; clear hq2 w2; refine RU.rd (V.pickT rfl rfl) ?_; refine RU.rd (V.mv rfl) ?_
  refine RU.splitD (fun h9 => ?_) (fun _ => by omega); refine RU.rdG rfl rfl (V.fld0 f78_3 rfl) ?_; refine RU.rdG rfl rfl (V.ld s3 rfl (cur hB1) rfl) ?_; refine RU.loG rfl rfl (L.call fn101 rfl (c101) ?_)
  rintro _ w2 ⟨rfl, hq2⟩; rw [hq2]; clear hq2 w2; refine RU.rd (V.pickT rfl rfl) ?_; refine RU.rd (V.as rfl) ?_; refine RU.nil ?_; refine RX.seq ?_; refine RX.seq ?_; refine RX.region ?_; refine RU.rd (V.fld0 f78_0 rfl) ?_
  refine RU.rd (V.ld s3 rfl (cur hB1) rfl) ?_; refine RU.nil ?_; refine RX.block ?_; refine RX.seq ?_; refine RX.region ?_; refine RU.rd (V.eql rfl rfl) ?_; refine RU.rd (V.as rfl) ?_; refine RU.nil ?_
  refine RX.condD rfl (fun h10 => ?_) (fun _ => by omega); refine RX.seq ?_; refine RX.region ?_; refine RU.rd (V.mv rfl) ?_; refine RU.rd (V.mv rfl) ?_; refine RU.splitD (fun h11 => ?_) (fun _ => by omega)
  refine RU.rdG rfl rfl (V.fld0 f78_4 rfl) ?_; refine RU.rdG rfl rfl (V.ld s3 rfl (cur hB1) rfl) ?_; refine RU.rdG rfl rfl (V.eql rfl rfl) ?_; refine RU.rd (V.pickT rfl rfl) ?_; refine RU.rd (V.as rfl) ?_; refine RU.nil ?_
  refine RX.rt Tryz.func71 (by rfl) (ResOk.tmp rfl (ResOk.nil)) ?_
  exact ⟨by simp [tup, *], by assumption⟩
theorem c74 {c : Crv} {w : World} (h : c.Ok) : Calls Tryz.prog 74 #[.agg #[.int .i64 c.k, .int .i64 c.a, .int .i64 c.b, .int .i64 c.c, .int .i64 c.d]] w (Ret fun v w' => v = .bool true ∧ Grow w w') := by
  obtain ⟨h1, h2, h3, h4, h5, h6, h7⟩ := h
  refine calls_of_rx (args := [_]) (e := [(0, _)]) (n := 69) Tryz.func74 rfl rfl rfl (by kernel_rfl) rfl ?_
  have hC := Ch.refl Nil w
  refine RX.seq ?_; refine RX.region ?_; refine RU.lo (L.bx hC rfl fun b1 w1 hb1 le1 hC1 gr1 hz1 hB1 => ?_); refine RU.rd (V.as rfl) ?_; refine RU.nil ?_; refine RX.seq ?_; refine RX.seq ?_; refine RX.region ?_
  refine RU.rd (V.fld0 f78_0 rfl) ?_; refine RU.rd (V.ld s3 rfl (cur hB1) rfl) ?_; refine RU.nil ?_; refine RX.block ?_; refine RX.seq ?_; refine RX.region ?_; refine RU.rd (V.eql rfl rfl) ?_; refine RU.rd (V.as rfl) ?_
  refine RU.nil ?_; refine RX.condD rfl (fun h8 => ?_) (fun _ => by omega); refine RX.seq ?_; refine RX.region ?_; refine RU.rd (V.fld0 f78_1 rfl) ?_; refine RU.rd (V.ld s3 rfl (cur hB1) rfl) ?_
  refine RU.lo (L.call fn102 rfl (c102) ?_); rintro _ w2 ⟨rfl, hq2⟩; rw [hq2]; clear hq2 w2; refine RU.rd (V.mv rfl) ?_; refine RU.splitD (fun h9 => ?_) (fun _ => by omega); refine RU.rdG rfl rfl (V.fld0 f78_2 rfl) ?_
  refine RU.rdG rfl rfl (V.ld s3 rfl (cur hB1) rfl) ?_; refine RU.rdG rfl rfl (V.fld0 f78_1 rfl) ?_; refine RU.rdG rfl rfl (V.ld s3 rfl (cur hB1) rfl) ?_; refine RU.loG rfl rfl (L.call fn102 rfl (c102) ?_)
  rintro _ w2 ⟨rfl, hq2⟩; rw [hq2]; clear hq2 w2; refine RU.rd (V.pickT rfl rfl) ?_; refine RU.rd (V.mv rfl) ?_; refine RU.splitD (fun h10 => ?_) (fun _ => by omega); refine RU.rdG rfl rfl (V.fld0 f78_3 rfl) ?_
  refine RU.rdG rfl rfl (V.ld s3 rfl (cur hB1) rfl) ?_; refine RU.loG rfl rfl (L.call fn102 rfl (c102) ?_); rintro _ w2 ⟨rfl, hq2⟩; rw [hq2]; clear hq2 w2; refine RU.rd (V.pickT rfl rfl) ?_; refine RU.rd (V.mv rfl) ?_
  refine RU.splitD (fun h11 => ?_) (fun _ => by omega); refine RU.rdG rfl rfl (V.fld0 f78_4 rfl) ?_; refine RU.rdG rfl rfl (V.ld s3 rfl (cur hB1) rfl) ?_; refine RU.rdG rfl rfl (V.eql rfl rfl) ?_
  refine RU.rd (V.pickT rfl rfl) ?_; refine RU.rd (V.as rfl) ?_; refine RU.nil ?_; refine RX.rt Tryz.func74 (by rfl) (ResOk.tmp rfl (ResOk.nil)) ?_
  exact ⟨by simp [tup, *], by assumption⟩
theorem c42 {t : Trk} {w : World} (h : t.Ok) : Calls Tryz.prog 42 #[.agg (trC t).toArray] w (Ret fun v w' => v = .bool true ∧ Grow w w') := by
  have h1 := h.most
  have h2 := h.dep
  have h3 := h.cap
  have h4 := h.prep
  have h5 := h.conf
  have h6 := h.enact
  have h7 := h.dec
  have h8 := h.app
  have h9 := h.sup
  have h10 := h.rank
  refine calls_of_rx (args := [_]) (e := [(0, _)]) (n := 51) Tryz.func42 rfl rfl rfl (by kernel_rfl) rfl ?_
  have hC := Ch.refl Nil w
  refine RX.seq ?_; refine RX.region ?_; refine RU.lo (L.bx hC rfl fun b1 w1 hb1 le1 hC1 gr1 hz1 hB1 => ?_); refine RU.rd (V.as rfl) ?_; refine RU.nil ?_; refine RX.seq ?_; refine RX.region ?_
  refine RU.rd (V.fld0 f80_0 rfl) ?_; refine RU.rd (V.ld s3 rfl (cur hB1) rfl) ?_; refine RU.lo (L.call fn70 rfl (c70) ?_); rintro _ w2 ⟨rfl, hq2⟩; rw [hq2]; clear hq2 w2; refine RU.rd (V.mv rfl) ?_
  refine RU.splitD (fun h11 => ?_) (fun _ => by omega); refine RU.rdG rfl rfl (V.fld0 f80_1 rfl) ?_; refine RU.rdG rfl rfl (V.ld s3 rfl (cur hB1) rfl) ?_; refine RU.loG rfl rfl (L.call fn70 rfl (c70) ?_)
  rintro _ w2 ⟨rfl, hq2⟩; rw [hq2]; clear hq2 w2; refine RU.rd (V.pickT rfl rfl) ?_; refine RU.rd (V.mv rfl) ?_; refine RU.splitD (fun h12 => ?_) (fun _ => by omega); refine RU.rdG rfl rfl (V.fld0 f80_8 rfl) ?_
  refine RU.rdG rfl rfl (V.ld s3 rfl (cur hB1) rfl) ?_; refine RU.loG rfl rfl (L.call fn70 rfl (c70) ?_); rintro _ w2 ⟨rfl, hq2⟩; rw [hq2]; clear hq2 w2; refine RU.rd (V.pickT rfl rfl) ?_; refine RU.rd (V.mv rfl) ?_
  refine RU.splitD (fun h13 => ?_) (fun _ => by omega); refine RU.rdG rfl rfl (V.fld0 f80_2 rfl) ?_; refine RU.rdG rfl rfl (V.ld s3 rfl (cur hB1) rfl) ?_; refine RU.loG rfl rfl (L.call fn70 rfl (c70) ?_)
  rintro _ w2 ⟨rfl, hq2⟩; rw [hq2]; clear hq2 w2; refine RU.rd (V.pickT rfl rfl) ?_; refine RU.rd (V.mv rfl) ?_; refine RU.splitD (fun h14 => ?_) (fun _ => by omega); refine RU.rdG rfl rfl (V.fld0 f80_4 rfl) ?_
  refine RU.rdG rfl rfl (V.ld s3 rfl (cur hB1) rfl) ?_; refine RU.loG rfl rfl (L.call fn70 rfl (c70) ?_); rintro _ w2 ⟨rfl, hq2⟩; rw [hq2]; clear hq2 w2; refine RU.rd (V.pickT rfl rfl) ?_; refine RU.rd (V.mv rfl) ?_
  refine RU.splitD (fun h15 => ?_) (fun _ => by omega); refine RU.rdG rfl rfl (V.fld0 f80_5 rfl) ?_; refine RU.rdG rfl rfl (V.ld s3 rfl (cur hB1) rfl) ?_; refine RU.loG rfl rfl (L.call fn70 rfl (c70) ?_)
  rintro _ w2 ⟨rfl, hq2⟩; rw [hq2]; clear hq2 w2; refine RU.rd (V.pickT rfl rfl) ?_; refine RU.rd (V.mv rfl) ?_; refine RU.splitD (fun h16 => ?_) (fun _ => by omega); refine RU.rdG rfl rfl (V.fld0 f80_3 rfl) ?_
  refine RU.rdG rfl rfl (V.ld s3 rfl (cur hB1) rfl) ?_; refine RU.loG rfl rfl (L.call fn70 rfl (c70) ?_); rintro _ w2 ⟨rfl, hq2⟩; rw [hq2]; clear hq2 w2; refine RU.rd (V.pickT rfl rfl) ?_; refine RU.rd (V.mv rfl) ?_
  refine RU.splitD (fun h17 => ?_) (fun _ => by omega); refine RU.rdG rfl rfl (V.fld0 f80_6 rfl) ?_; refine RU.rdG rfl rfl (V.ldA a78 rfl (cur hB1) (vs := [_, _, _, _, _]) rfl rfl) ?_
  refine RU.loG rfl rfl (L.call fn71 rfl (c71 ?_) ?_); assumption; rintro _ w2 ⟨rfl, gr2⟩; have hC2 := hC1.trans (Ch.of_grow gr2); have hB1 := hB1.gr gr2; refine RU.rd (V.pickT rfl rfl) ?_; refine RU.rd (V.mv rfl) ?_
  refine RU.rdG rfl rfl (V.fld0 f80_7 rfl) ?_; refine RU.rdG rfl rfl (V.ldA a78 rfl (cur hB1) (vs := [_, _, _, _, _]) rfl rfl) ?_; refine RU.loG rfl rfl (L.call fn71 rfl (c71 ?_) ?_); assumption; rintro _ w3 ⟨rfl, gr3⟩
  have hC3 := hC2.trans (Ch.of_grow gr3); have hB1 := hB1.gr gr3; refine RU.rd (V.pickT rfl rfl) ?_; refine RU.rd (V.mv rfl) ?_; refine RU.rdG rfl rfl (V.fld0 f80_9 rfl) ?_
  refine RU.rdG rfl rfl (V.ld s3 rfl (cur hB1) rfl) ?_; refine RU.loG rfl rfl (L.call fn70 rfl (c70) ?_); rintro _ w4 ⟨rfl, hq4⟩; rw [hq4]; clear hq4 w4; refine RU.rd (V.pickT rfl rfl) ?_; refine RU.rd (V.as rfl) ?_
  refine RU.nil ?_; refine RX.rt Tryz.func42 (by rfl) (ResOk.tmp rfl (ResOk.nil)) ?_
  exact ⟨by simp [tup, *], by assumption⟩
theorem c47 {t : Trk} {w : World} (h : t.Ok) : Calls Tryz.prog 47 #[.agg (trC t).toArray] w (Ret fun v w' => v = .bool true ∧ Grow w w') := by
  have h1 := h.most
  have h2 := h.dep
  have h3 := h.cap
  have h4 := h.prep
  have h5 := h.conf
  have h6 := h.enact
  have h7 := h.dec
  have h8 := h.app
  have h9 := h.sup
  have h10 := h.rank
  refine calls_of_rx (args := [_]) (e := [(0, _)]) (n := 51) Tryz.func47 rfl rfl rfl (by kernel_rfl) rfl ?_
  have hC := Ch.refl Nil w
  refine RX.seq ?_; refine RX.region ?_; refine RU.lo (L.bx hC rfl fun b1 w1 hb1 le1 hC1 gr1 hz1 hB1 => ?_); refine RU.rd (V.as rfl) ?_; refine RU.nil ?_; refine RX.seq ?_; refine RX.region ?_
  refine RU.rd (V.fld0 f80_0 rfl) ?_; refine RU.rd (V.ld s3 rfl (cur hB1) rfl) ?_; refine RU.lo (L.call fn73 rfl (c73) ?_); rintro _ w2 ⟨rfl, hq2⟩; rw [hq2]; clear hq2 w2; refine RU.rd (V.mv rfl) ?_
  refine RU.splitD (fun h11 => ?_) (fun _ => by omega); refine RU.rdG rfl rfl (V.fld0 f80_1 rfl) ?_; refine RU.rdG rfl rfl (V.ld s3 rfl (cur hB1) rfl) ?_; refine RU.loG rfl rfl (L.call fn73 rfl (c73) ?_)
  rintro _ w2 ⟨rfl, hq2⟩; rw [hq2]; clear hq2 w2; refine RU.rd (V.pickT rfl rfl) ?_; refine RU.rd (V.mv rfl) ?_; refine RU.splitD (fun h12 => ?_) (fun _ => by omega); refine RU.rdG rfl rfl (V.fld0 f80_8 rfl) ?_
  refine RU.rdG rfl rfl (V.ld s3 rfl (cur hB1) rfl) ?_; refine RU.loG rfl rfl (L.call fn73 rfl (c73) ?_); rintro _ w2 ⟨rfl, hq2⟩; rw [hq2]; clear hq2 w2; refine RU.rd (V.pickT rfl rfl) ?_; refine RU.rd (V.mv rfl) ?_
  refine RU.splitD (fun h13 => ?_) (fun _ => by omega); refine RU.rdG rfl rfl (V.fld0 f80_2 rfl) ?_; refine RU.rdG rfl rfl (V.ld s3 rfl (cur hB1) rfl) ?_; refine RU.loG rfl rfl (L.call fn73 rfl (c73) ?_)
  rintro _ w2 ⟨rfl, hq2⟩; rw [hq2]; clear hq2 w2; refine RU.rd (V.pickT rfl rfl) ?_; refine RU.rd (V.mv rfl) ?_; refine RU.splitD (fun h14 => ?_) (fun _ => by omega); refine RU.rdG rfl rfl (V.fld0 f80_4 rfl) ?_
  refine RU.rdG rfl rfl (V.ld s3 rfl (cur hB1) rfl) ?_; refine RU.loG rfl rfl (L.call fn73 rfl (c73) ?_); rintro _ w2 ⟨rfl, hq2⟩; rw [hq2]; clear hq2 w2; refine RU.rd (V.pickT rfl rfl) ?_; refine RU.rd (V.mv rfl) ?_
  refine RU.splitD (fun h15 => ?_) (fun _ => by omega); refine RU.rdG rfl rfl (V.fld0 f80_5 rfl) ?_; refine RU.rdG rfl rfl (V.ld s3 rfl (cur hB1) rfl) ?_; refine RU.loG rfl rfl (L.call fn73 rfl (c73) ?_)
  rintro _ w2 ⟨rfl, hq2⟩; rw [hq2]; clear hq2 w2; refine RU.rd (V.pickT rfl rfl) ?_; refine RU.rd (V.mv rfl) ?_; refine RU.splitD (fun h16 => ?_) (fun _ => by omega); refine RU.rdG rfl rfl (V.fld0 f80_3 rfl) ?_
  refine RU.rdG rfl rfl (V.ld s3 rfl (cur hB1) rfl) ?_; refine RU.loG rfl rfl (L.call fn73 rfl (c73) ?_); rintro _ w2 ⟨rfl, hq2⟩; rw [hq2]; clear hq2 w2; refine RU.rd (V.pickT rfl rfl) ?_; refine RU.rd (V.mv rfl) ?_
  refine RU.splitD (fun h17 => ?_) (fun _ => by omega); refine RU.rdG rfl rfl (V.fld0 f80_6 rfl) ?_; refine RU.rdG rfl rfl (V.ldA a78 rfl (cur hB1) (vs := [_, _, _, _, _]) rfl rfl) ?_
  refine RU.loG rfl rfl (L.call fn74 rfl (c74 ?_) ?_); assumption; rintro _ w2 ⟨rfl, gr2⟩; have hC2 := hC1.trans (Ch.of_grow gr2); have hB1 := hB1.gr gr2; refine RU.rd (V.pickT rfl rfl) ?_; refine RU.rd (V.mv rfl) ?_
  refine RU.rdG rfl rfl (V.fld0 f80_7 rfl) ?_; refine RU.rdG rfl rfl (V.ldA a78 rfl (cur hB1) (vs := [_, _, _, _, _]) rfl rfl) ?_; refine RU.loG rfl rfl (L.call fn74 rfl (c74 ?_) ?_); assumption; rintro _ w3 ⟨rfl, gr3⟩
  have hC3 := hC2.trans (Ch.of_grow gr3); have hB1 := hB1.gr gr3; refine RU.rd (V.pickT rfl rfl) ?_; refine RU.rd (V.mv rfl) ?_; refine RU.rdG rfl rfl (V.fld0 f80_9 rfl) ?_
  refine RU.rdG rfl rfl (V.ld s3 rfl (cur hB1) rfl) ?_; refine RU.loG rfl rfl (L.call fn73 rfl (c73) ?_); rintro _ w4 ⟨rfl, hq4⟩; rw [hq4]; clear hq4 w4; refine RU.rd (V.pickT rfl rfl) ?_; refine RU.rd (V.as rfl) ?_
  refine RU.nil ?_; refine RX.rt Tryz.func47 (by rfl) (ResOk.tmp rfl (ResOk.nil)) ?_
  exact ⟨by simp [tup, *], by assumption⟩
theorem c41 {t : Trk} {w : World} (h : t.Ok) : Calls Tryz.prog 41 #[.agg (trC t).toArray] w (Ret fun v w' => v = .bool false ∧ Grow w w') := by
  refine calls_of_rx (args := [_]) (e := [(0, _)]) (n := 6) Tryz.func41 rfl rfl rfl (by kernel_rfl) rfl ?_
  have hC := Ch.refl Nil w
  refine RX.seq ?_; refine RX.region ?_; refine RU.lo (L.bx hC rfl fun b1 w1 hb1 le1 hC1 gr1 hz1 hB1 => ?_); refine RU.rd (V.as rfl) ?_; refine RU.nil ?_; refine RX.seq ?_; refine RX.region ?_
  refine RU.rd (V.ldA a80 rfl (cur hB1) (vs := [_, _, _, _, _, _, _, _, _, _, _, _, _, _, _, _, _, _]) rfl rfl) ?_; refine RU.lo (L.call fn42 rfl (c42 ?_) ?_); assumption; rintro _ w2 ⟨rfl, gr2⟩
  have hC2 := hC1.trans (Ch.of_grow gr2); have hB1 := hB1.gr gr2; refine RU.rd (V.not rfl) ?_; refine RU.rd (V.as rfl) ?_; refine RU.nil ?_; refine RX.rt Tryz.func41 (by rfl) (ResOk.tmp rfl (ResOk.nil)) ?_
  exact ⟨by simp [tup, *], by assumption⟩
end Go.Proofs.YtmcfbinkofoagaaGreat
