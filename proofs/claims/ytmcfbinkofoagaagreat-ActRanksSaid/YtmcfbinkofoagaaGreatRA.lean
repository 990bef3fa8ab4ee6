/- Where a referendum's cell stands, or would. -/
import Derived.Test.YtmcfbinkofoagaaGreatJB
namespace Go.Proofs.YtmcfbinkofoagaaGreat
open Go Go.RowKit Sx Go.Proofs

/-- Of two numbers: which is less. -/
def cmpI (a b : Int) : Int := if a < b then -1 else if b < a then 1 else 0
def cmpK (a b : Int × Int) : Int := if cmpI a.1 b.1 ≠ 0 then cmpI a.1 b.1 else cmpI a.2 b.2
def keyLt (a b : Int × Int) : Prop := a.1 < b.1 ∨ (a.1 = b.1 ∧ a.2 < b.2)
theorem cmpK_lt {a b : Int × Int} : cmpK a b < 0 ↔ keyLt a b := by
  unfold cmpK cmpI keyLt
  repeat' split
  all_goals omega
theorem cmpK_eq {a b : Int × Int} : cmpK a b = 0 ↔ a = b := by
  obtain ⟨a1, a2⟩ := a
  obtain ⟨b1, b2⟩ := b
  rw [Prod.mk.injEq]
  unfold cmpK cmpI
  dsimp only
  repeat' split
  all_goals omega
theorem c109 {a : Int} {w : World} : Calls Tryz.prog 109 #[.int .i64 a] w (Ret fun v w' => v = .bool false ∧ w' = w) := by
  refine calls_of_rx (args := [_]) (e := [(0, _)]) (n := 6) Tryz.func109 rfl rfl rfl (by kernel_rfl) rfl ?_
  have hC := Ch.refl Nil w
  refine RX.seq ?_; refine RX.region ?_; refine RU.rd (V.as rfl) ?_; refine RU.nil ?_; refine RX.seq ?_; refine RX.region ?_; refine RU.rd (V.mv rfl) ?_; refine RU.rd (V.mv rfl) ?_; refine RU.rd (V.neq rfl rfl) ?_
  refine RU.rd (V.as rfl) ?_; refine RU.nil ?_; refine RX.rt Tryz.func109 (by rfl) (ResOk.tmp rfl (ResOk.nil)) ?_; simp [tup, *]
theorem c94 {a b : Int} {w : World} : Calls Tryz.prog 94 #[.int .i64 a, .int .i64 b] w (Ret fun v w' => v = .int .i64 (cmpI a b) ∧ w' = w) := by
  refine calls_of_rx (args := [_, _]) (e := [(0, _), (1, _)]) (n := 20) Tryz.func94 rfl rfl rfl (by kernel_rfl) rfl ?_
  have hC := Ch.refl Nil w
  refine RX.seq ?_; refine RX.region ?_; refine RU.rd (V.as rfl) ?_; refine RU.nil ?_; refine RX.seq ?_; refine RX.region ?_; refine RU.rd (V.mv rfl) ?_; refine RU.lo (L.call fn109 rfl (c109) ?_); rintro _ w1 ⟨rfl, hq1⟩
  rw [hq1]; clear hq1 w1; refine RU.rd (V.as rfl) ?_; refine RU.nil ?_; refine RX.seq ?_; refine RX.region ?_; refine RU.rd (V.mv rfl) ?_; refine RU.lo (L.call fn109 rfl (c109) ?_); rintro _ w1 ⟨rfl, hq1⟩; rw [hq1]
  clear hq1 w1; refine RU.rd (V.as rfl) ?_; refine RU.nil ?_; refine RX.seq ?_; refine RX.seq ?_; refine RX.region ?_; refine RU.rd (V.mv rfl) ?_; refine RU.nil ?_; refine RX.condF rfl ?_; refine RX.skip ?_
  refine RX.seq ?_; refine RX.seq ?_; refine RX.region ?_; refine RU.rd (V.mv rfl) ?_; refine RU.nil ?_; refine RX.condF rfl ?_; refine RX.skip ?_; refine RX.seq ?_; refine RX.seq ?_; refine RX.region ?_
  refine RU.rd (V.mv rfl) ?_; refine RU.rd (V.mv rfl) ?_; refine RU.rd (V.lss rfl rfl) ?_; refine RU.nil ?_; refine RX.condD rfl (fun h1 => ?_) fun h1 => ?_
  · refine RX.seq ?_; refine RX.region ?_; refine RU.rd (V.as rfl) ?_; refine RU.nil ?_; refine RX.rt Tryz.func94 (by rfl) (ResOk.tmp rfl (ResOk.nil)) ?_
    exact ⟨by unfold cmpI; (repeat' split) <;> first | rfl | omega, rfl⟩
  · refine RX.skip ?_; refine RX.seq ?_; refine RX.seq ?_; refine RX.region ?_; refine RU.rd (V.mv rfl) ?_; refine RU.rd (V.mv rfl) ?_; refine RU.rd (V.gtr rfl rfl) ?_; refine RU.nil ?_
    refine RX.condD rfl (fun h2 => ?_) fun h2 => ?_
    · refine RX.seq ?_; refine RX.region ?_; refine RU.rd (V.as rfl) ?_; refine RU.nil ?_; refine RX.rt Tryz.func94 (by rfl) (ResOk.tmp rfl (ResOk.nil)) ?_
      exact ⟨by unfold cmpI; (repeat' split) <;> first | rfl | omega, rfl⟩
    · refine RX.skip ?_; refine RX.seq ?_; refine RX.region ?_; refine RU.rd (V.as rfl) ?_; refine RU.nil ?_; refine RX.rt Tryz.func94 (by rfl) (ResOk.tmp rfl (ResOk.nil)) ?_
      exact ⟨by unfold cmpI; (repeat' split) <;> first | rfl | omega, rfl⟩
/-- The first of two that is not nothing. -/
theorem c93 {w : World} {b : Nat} {x y : Int} (hb : Blk w b [.int .i64 x, .int .i64 y] 3) : Calls Tryz.prog 93 #[.slice (some ⟨b, 0, none⟩) 2 2] w (Ret fun v w' => v = .int .i64 (if x ≠ 0 then x else y) ∧ Grow w w') := by
  refine calls_of_rx (args := [_]) (e := [(0, _)]) (n := 18) Tryz.func93 rfl rfl rfl (by kernel_rfl) rfl ?_
  have hC := Ch.refl Nil w
  refine RX.seq ?_; refine RX.region ?_; refine RU.rd (V.as rfl) ?_; refine RU.nil ?_; refine RX.seq ?_; refine RX.region ?_; refine RU.rd (V.as rfl) ?_; refine RU.nil ?_; refine RX.seq ?_; refine RX.seq ?_
  refine RX.region ?_; refine RU.rd (V.mv rfl) ?_; refine RU.rd (V.len u49 rfl) ?_; refine RU.rd (V.mv rfl) ?_; refine RU.nil ?_; refine RX.block ?_
  refine RX.keep [(3, _), (6, _), (7, _), (8, _)] ⟨rfl, rfl, rfl, rfl, trivial⟩ ?_
  refine RX.loop (fun d e w' => ∃ i : Nat, d = 2 - i ∧ i ≤ 2 ∧ e = [(3, .int .i64 0), (6, .slice (some ⟨b, 0, none⟩) 2 2), (7, .int .i64 2), (8, .int .i64 i)] ∧ w' = w ∧ (0 < i → x = 0) ∧ (1 < i → y = 0)) (2 - 0) ⟨0, rfl, by omega, rfl, rfl, by omega, by omega⟩ ?_
  rintro d e w' ⟨i, rfl, hi, rfl, rfl, h1, h2⟩ ih
  refine RX.seq ?_; refine RX.region ?_; refine RU.rd (V.lss rfl rfl) ?_; refine RU.nil ?_; refine RX.seq ?_; refine RX.condD rfl (fun h3 => ?_) fun h3 => ?_
  · have hi' : i = 0 ∨ i = 1 := by omega
    obtain rfl | rfl := hi'
    · refine RX.skip ?_; refine RX.seq ?_; refine RX.block ?_; refine RX.seq ?_; refine RX.region ?_; refine RU.rd (V.idx e49 rfl rfl (by omega)) ?_; refine RU.rd (V.ld s3 rfl (cur hb) rfl) ?_; refine RU.rd (V.as rfl) ?_
      refine RU.nil ?_; refine RX.seq ?_; refine RX.region ?_; refine RU.rd (V.mv rfl) ?_; refine RU.rd (V.mv rfl) ?_; refine RU.rd (V.neq rfl rfl) ?_; refine RU.nil ?_; refine RX.condD rfl (fun h4 => ?_) fun h4 => ?_
      · refine RX.seq ?_; refine RX.region ?_; refine RU.rd (V.mv rfl) ?_; refine RU.rd (V.as rfl) ?_; refine RU.nil ?_; refine RX.rt Tryz.func93 (by rfl) (ResOk.tmp rfl (ResOk.nil)) ?_
        exact ⟨by simp [tup, *], hC⟩
      · refine RX.skip ?_; refine RX.inBlock ?_; refine RX.region ?_; refine RU.rd (V.add rfl rfl (by omega)) ?_; refine RU.rd (V.mv rfl) ?_; refine RU.nil ?_
        refine RX.keep [(3, _), (6, _), (7, _), (8, _)] ⟨rfl, rfl, rfl, rfl, trivial⟩ ?_
        exact ih (2 - 1) (by omega) _ _ ⟨1, rfl, by omega, rfl, rfl, by omega, by omega⟩
    · have hx0 := h1 (by omega)
      refine RX.skip ?_; refine RX.seq ?_; refine RX.block ?_; refine RX.seq ?_; refine RX.region ?_; refine RU.rd (V.idx e49 rfl rfl (by omega)) ?_; refine RU.rd (V.ld s3 rfl (cur hb) rfl) ?_; refine RU.rd (V.as rfl) ?_
      refine RU.nil ?_; refine RX.seq ?_; refine RX.region ?_; refine RU.rd (V.mv rfl) ?_; refine RU.rd (V.mv rfl) ?_; refine RU.rd (V.neq rfl rfl) ?_; refine RU.nil ?_; refine RX.condD rfl (fun h4 => ?_) fun h4 => ?_
      · refine RX.seq ?_; refine RX.region ?_; refine RU.rd (V.mv rfl) ?_; refine RU.rd (V.as rfl) ?_; refine RU.nil ?_; refine RX.rt Tryz.func93 (by rfl) (ResOk.tmp rfl (ResOk.nil)) ?_
        exact ⟨by simp [tup, hx0], hC⟩
      · refine RX.skip ?_; refine RX.inBlock ?_; refine RX.region ?_; refine RU.rd (V.add rfl rfl (by omega)) ?_; refine RU.rd (V.mv rfl) ?_; refine RU.nil ?_
        refine RX.keep [(3, _), (6, _), (7, _), (8, _)] ⟨rfl, rfl, rfl, rfl, trivial⟩ ?_
        exact ih (2 - 2) (by omega) _ _ ⟨2, rfl, by omega, rfl, rfl, by omega, by omega⟩
  · have hx0 := h1 (by omega)
    have hy0 := h2 (by omega)
    refine RX.exit rfl ?_; refine RX.seq ?_; refine RX.region ?_; refine RU.rd (V.mv rfl) ?_; refine RU.rd (V.as rfl) ?_; refine RU.nil ?_; refine RX.rt Tryz.func93 (by rfl) (ResOk.tmp rfl (ResOk.nil)) ?_
    exact ⟨by simp [tup, hx0, hy0], hC⟩
theorem c92 {w : World} {k1 k2 a b : Int} {vs : List Value} : Calls Tryz.prog 92 #[.agg (.int .i64 k1 :: .int .i64 k2 :: vs).toArray, .agg #[.int .i64 a, .int .i64 b]] w
    (Ret fun v w' => v = .int .i64 (cmpK (k1, k2) (a, b)) ∧ Grow w w') := by
  refine calls_of_rx (args := [_, _]) (e := [(0, _), (1, _)]) (n := 19) Tryz.func92 rfl rfl rfl (by kernel_rfl) rfl ?_
  have hC := Ch.refl Nil w
  have uq := True.intro
  refine RX.seq ?_; refine RX.region ?_; refine RU.lo (L.bx hC rfl fun b1 w1 hb1 le1 hC1 gr1 hz1 hB1 => ?_); have l2_hB1 := hB1.lt; refine RU.lo (L.bx hC1 rfl fun b2 w2 hb2 le2 hC2 gr2 hz2 hB2 => ?_); have hB1 := hB1.gr gr2
  refine RU.rd (V.as rfl) ?_; refine RU.nil ?_; refine RX.seq ?_
  refine RX.draw (Ch Nil w2) [2, 4, 8, 10] [(0, true), (1, true), (2, true), (3, true), (4, true), (6, true), (7, true), (8, true), (9, true), (10, true), (5, false), (11, false), (12, false), (13, false), (14, true)] mixed (by kernel_rfl) fun w3 gr3 hz3 => ?_
  have hC3 := hC2.trans (Ch.of_grow gr3); have hB2d3 := hB2.gr gr3; have hB1d3 := hB1.gr gr3; refine RD.rz rfl (V.fld0 f147_0 rfl) ?_; refine RD.rz rfl (V.idxA ar145 rfl rfl (by omega)) ?_
  refine RD.rd rfl rfl gr3 (V.ld s3 rfl (fun _ hS => hB1.gr hS) rfl) ?_; refine RD.rz rfl (V.idxA ar145 rfl rfl (by omega)) ?_; refine RD.rd rfl rfl gr3 (V.ld s3 rfl (fun _ hS => hB2.gr hS) rfl) ?_
  refine RD.rz rfl (V.fld0 f147_0 rfl) ?_; refine RD.rz rfl (V.idxA ar145 rfl rfl (by omega)) ?_; refine RD.rd rfl rfl gr3 (V.ld s3 rfl (fun _ hS => hB1.gr hS) rfl) ?_; refine RD.rz rfl (V.idxA ar145 rfl rfl (by omega)) ?_
  refine RD.rd rfl rfl gr3 (V.ld s3 rfl (fun _ hS => hB2.gr hS) rfl) ?_; refine RD.lo rfl (L.call fn94 rfl (c94) ?_); rintro _ w4 ⟨rfl, hq4⟩; rw [hq4]; refine ⟨gr3 , ?_⟩; clear hq4 w4
  refine RD.lf rfl (by kernel_rfl) (L.call fn94 rfl (c94) ?_); rintro _ w4 ⟨rfl, hq4⟩; rw [hq4]; clear hq4 w4; have l4_hB2d3 := hB2d3.lt; have l4_hB1d3 := hB1d3.lt
  refine RD.lf rfl (by kernel_rfl) (L.bsl hC3 e49 z3 rfl rfl rfl rfl fun b4 w4 hb4 le4 hC4 gr4 hz4 hB4 => ?_); have hS4 := gr3.trans (Ch.of_grow gr4); have hB2d3a4 := hB2d3.gr gr4; have hB1d3a4 := hB1d3.gr gr4
  refine RD.lf rfl (by kernel_rfl) (L.call fn93 rfl (c93 hB4) ?_); rintro _ w5 ⟨rfl, gr5⟩; have hC5 := hC4.trans (Ch.of_grow gr5); have hB4 := hB4.gr gr5; have hB2d3a4 := hB2d3a4.gr gr5; have hB1d3a4 := hB1d3a4.gr gr5
  refine RD.rz rfl (V.as rfl) ?_; refine RD.nil ?_; refine RX.rt Tryz.func92 (by rfl) (ResOk.tmp rfl (ResOk.nil)) ?_
  exact ⟨rfl, by assumption⟩
/-- A referendum. -/
structure Rfd where
  state : Int
  track : Int
  sum : Nat → Int
  after : Int
  subm : Int
  who : Int
  put : Bool
  backer : Int
  since : Int
  till : Int
  fin : Int
  ayes : Int
  nays : Int
  supp : Int
def encR (x : Rfd) : List Value := [.int .i64 x.state, .int .i64 x.track, .int .u8 (x.sum 0), .int .u8 (x.sum 1), .int .u8 (x.sum 2), .int .u8 (x.sum 3), .int .u8 (x.sum 4), .int .u8 (x.sum 5), .int .u8 (x.sum 6), .int .u8 (x.sum 7), .int .u8 (x.sum 8), .int .u8 (x.sum 9), .int .u8 (x.sum 10), .int .u8 (x.sum 11), .int .u8 (x.sum 12), .int .u8 (x.sum 13), .int .u8 (x.sum 14), .int .u8 (x.sum 15), .int .u8 (x.sum 16), .int .u8 (x.sum 17), .int .u8 (x.sum 18), .int .u8 (x.sum 19), .int .u8 (x.sum 20), .int .u8 (x.sum 21), .int .u8 (x.sum 22), .int .u8 (x.sum 23), .int .u8 (x.sum 24), .int .u8 (x.sum 25), .int .u8 (x.sum 26), .int .u8 (x.sum 27), .int .u8 (x.sum 28), .int .u8 (x.sum 29), .int .u8 (x.sum 30), .int .u8 (x.sum 31),
  .int .i64 x.after, .int .i64 x.subm, .int .i64 x.who, .bool x.put, .int .i64 x.backer, .int .i64 x.since, .int .i64 x.till, .int .i64 x.fin, .int .i64 x.ayes, .int .i64 x.nays, .int .i64 x.supp]
theorem encR_length (x : Rfd) : (encR x).length = 45 := rfl
abbrev RGrid := List ((Int × Int) × Rfd)
theorem celR_length (c : (Int × Int) × Rfd) : (celC encR c).length = 47 := rfl
/-- A slice of cells that can be read. -/
def RdG (w : World) (v : Value) (G : RGrid) : Prop := ∃ p off c, v = .slice p G.length c ∧ (0 < G.length → ∃ b cs, p = some ⟨b, off, none⟩ ∧ BlkR w b cs ∧ ∀ j (h : j < G.length), (cs.drop (off + j * 47)).take 47 = celC encR G[j])
theorem Rd.g {w : World} {v : Value} {G : RGrid} {n : Nat} (h : Rd w 47 v n (gcs encR G)) (hn : n = G.length) : RdG w v G := by
  obtain ⟨xs, hx⟩ : ∃ xs, gcs encR G = xs := ⟨_, rfl⟩
  rw [hx] at h
  subst hn
  generalize hm : G.length = m at h
  cases h with
  | nil => exact ⟨_, 0, _, by rw [hm], fun h => by omega⟩
  | some hb hn hxs =>
    rename_i b off c cs T
    refine ⟨_, off, _, by rw [hm], fun _ => ⟨b, cs, rfl, hb.r, fun j hj => ?_⟩⟩
    have h1 := rws_at celR_length [] G j hj
    rw [List.append_nil] at h1
    rw [← h1, show rws (celC encR) G = gcs encR G from rfl, hx, ← hxs]
    rw [List.drop_take, List.take_take, List.drop_drop]
    congr 1
    have : (j + 1) * 47 ≤ m * 47 := Nat.mul_le_mul_right _ (by omega)
    omega
theorem RdG.gr {w w1 : World} {v : Value} {G : RGrid} (h : RdG w v G) (hc : Grow w w1) : RdG w1 v G := by
  obtain ⟨p, off, c, rfl, h⟩ := h
  exact ⟨p, off, c, rfl, fun h0 => by obtain ⟨b, cs, e, hb, h2⟩ := h h0; exact ⟨b, cs, e, hb.gr hc, h2⟩⟩
/-- Cells stand by rising numbers. -/
def Rising (G : RGrid) : Prop := ∀ i j (hi : i < j) (hj : j < G.length), keyLt (G[i]'(by omega)).1 G[j].1

theorem keyLt_trans {a b c : Int × Int} (h1 : keyLt a b) (h2 : keyLt b c) : keyLt a c := by unfold keyLt at *; omega
theorem c91 {w : World} {v : Value} {G : RGrid} {k : Int × Int} (h : RdG w v G) (hr : Rising G) (hn : G.length ≤ 1000000) : Calls Tryz.prog 91 #[v, .agg #[.int .i64 k.1, .int .i64 k.2], .func (.func 92) #[] #[]] w
    (Ret fun v w' => ∃ p : Nat, p ≤ G.length ∧ (∀ i (_ : i < G.length), i < p → keyLt G[i].1 k) ∧ (∀ i (_ : i < G.length), p ≤ i → ¬ keyLt G[i].1 k) ∧ v = .tuple #[.int .i64 p, .bool (decide (∃ h : p < G.length, G[p].1 = k))] ∧ Grow w w') := by
  obtain ⟨p0, off, c, rfl, hb0⟩ := h
  refine calls_of_rx (args := [_, _, _]) (e := [(0, _), (1, _), (2, _)]) (n := 49) Tryz.func91 rfl rfl rfl (by kernel_rfl) rfl ?_
  have hC := Ch.refl Nil w
  have uq := True.intro
  refine RX.seq ?_; refine RX.region ?_; refine RU.lo (L.bx hC rfl fun b1 w1 hb1 le1 hC1 gr1 hz1 hB1 => ?_); refine RU.rd (V.as rfl) ?_; refine RU.rd (V.as rfl) ?_; refine RU.nil ?_; refine RX.seq ?_; refine RX.region ?_
  refine RU.rd (V.mv rfl) ?_; refine RU.rd (V.len u148 rfl) ?_; refine RU.rd (V.as rfl) ?_; refine RU.nil ?_; refine RX.seq ?_; refine RX.region ?_; refine RU.rd (V.mv rfl) ?_; refine RU.rd (V.as rfl) ?_
  refine RU.rd (V.as rfl) ?_; refine RU.nil ?_; refine RX.seq ?_; refine RX.block ?_
  refine RX.keep [(0, _), (2, _), (4, _), (8, _), (9, _), (10, _)] ⟨rfl, rfl, rfl, rfl, rfl, rfl, trivial⟩ ?_
  refine RX.loop (fun d e w' => ∃ i j : Nat, d = j - i ∧ i ≤ j ∧ j ≤ G.length ∧ e = [(0, .slice p0 G.length c), (2, .func (.func 92) #[] #[]), (4, .pointer (some ⟨b1, 0, none⟩)), (8, .int .i64 G.length), (9, .int .i64 i), (10, .int .i64 j)] ∧
    Grow w w' ∧ Blk w' b1 [.int .i64 k.1, .int .i64 k.2] 145 ∧ (∀ x (_ : x < G.length), x < i → keyLt G[x].1 k) ∧ (∀ x (_ : x < G.length), j ≤ x → ¬ keyLt G[x].1 k)) (G.length - 0)
    ⟨0, G.length, rfl, by omega, by omega, rfl, hC1, hB1, fun x _ h => by omega, fun x hx h => by omega⟩ ?_
  clear hC hC1 gr1 hz1 hb1 hB1
  rintro d e w' ⟨i, j, rfl, hij, hj, rfl, hC, hB1, hlo, hhi⟩ ih
  refine RX.seq ?_; refine RX.seq ?_; refine RX.region ?_; refine RU.rd (V.mv rfl) ?_; refine RU.rd (V.mv rfl) ?_; refine RU.rd (V.lss rfl rfl) ?_; refine RU.nil ?_; refine RX.condD rfl (fun h1 => ?_) fun h1 => ?_
  · have hij' : i < j := by omega
    obtain ⟨b0, cs0, rfl, hbv, ax⟩ := hb0 (by omega)
    have hbv := hbv.gr hC
    have hm1 : (i + j) / 2 < G.length := by omega
    have at1 : ∀ x (_ : x = (i + j) / 2), (cs0.drop (off + x * 47)).take 47 = celC encR G[(i + j) / 2] := by rintro x rfl; exact ax _ hm1
    refine RX.skip ?_; refine RX.block ?_; refine RX.seq ?_; refine RX.region ?_; refine RU.rd (V.mv rfl) ?_; refine RU.rd (V.mv rfl) ?_; refine RU.rd (V.add rfl rfl (by omega)) ?_
    refine RU.rd (V.convU u3 u183 rfl (by omega)) ?_; refine RU.rd (V.shr rfl rfl) ?_; refine RU.rd (V.convI u183 u3 rfl (by omega)) ?_; refine RU.rd (V.as rfl) ?_; refine RU.nil ?_; refine RX.seq ?_
    refine RX.draw (Ch Nil w') [4, 5] [(0, true), (1, true), (2, true), (3, true), (4, true), (5, true), (6, false), (7, true)] mixed (by kernel_rfl) fun w2 gr2 hz2 => ?_; have hC2 := hC.trans (Ch.of_grow gr2)
    have hB1d2 := hB1.gr gr2; have hbvd2 := hbv.gr gr2; refine RD.rz rfl (V.mv rfl) ?_; refine RD.rz rfl (V.mv rfl) ?_; refine RD.rz rfl (V.mv rfl) ?_; refine RD.rz rfl (V.idx e148 rfl rfl (by omega)) ?_
    refine RD.rd rfl rfl gr2 (V.ldAR a147 rfl (fun _ hS => hbv.gr hS) rfl (at1 _ (by omega))) ?_; refine RD.rd rfl rfl gr2 (V.ldA a145 rfl (fun _ hS => hB1.gr hS) (vs := [_, _]) rfl rfl) ?_
    refine RD.lf rfl (by kernel_rfl) (L.callV fn92 rfl rfl (c92 (k1 := G[(i + j) / 2].1.1) (k2 := G[(i + j) / 2].1.2) (a := k.1) (b := k.2) (vs := encR G[(i + j) / 2].2)) ?_)
    rintro _ w3 ⟨rfl, gr3⟩
    have hC3 := hC2.trans gr3
    have hB3 := hB1d2.gr gr3
    clear hB1 hB1d2 hbv hbvd2
    have hlt := cmpK_lt (a := G[(i + j) / 2].1) (b := k)
    refine RD.rz rfl (V.lss rfl rfl) ?_; refine RD.nil ?_; refine RX.condD rfl (fun h2 => ?_) fun h2 => ?_
    · have hm2 : keyLt G[(i + j) / 2].1 k := hlt.1 (by assumption)
      refine RX.region ?_; refine RU.rd (V.mv rfl) ?_; refine RU.rd (V.add rfl rfl (by omega)) ?_; refine RU.rd (V.as rfl) ?_; refine RU.nil ?_; refine RX.inBlock ?_
      refine RX.keep [(0, _), (2, _), (4, _), (8, _), (9, _), (10, _)] ⟨rfl, rfl, rfl, rfl, rfl, rfl, trivial⟩ ?_
      refine ih (j - ((i + j) / 2 + 1)) (by omega) _ _ ⟨(i + j) / 2 + 1, j, rfl, by omega, hj, rfl, hC3, by assumption, fun x hx h => ?_, hhi⟩
      by_cases hxm : x = (i + j) / 2
      · subst hxm; exact hm2
      · exact keyLt_trans (hr x ((i + j) / 2) (by omega) hm1) hm2
    · have hm2 : ¬ keyLt G[(i + j) / 2].1 k := fun h => absurd (hlt.2 h) (by assumption)
      refine RX.region ?_; refine RU.rd (V.mv rfl) ?_; refine RU.rd (V.as rfl) ?_; refine RU.nil ?_; refine RX.inBlock ?_
      refine RX.keep [(0, _), (2, _), (4, _), (8, _), (9, _), (10, _)] ⟨rfl, rfl, rfl, rfl, rfl, rfl, trivial⟩ ?_
      refine ih ((i + j) / 2 - i) (by omega) _ _ ⟨i, (i + j) / 2, rfl, by omega, by omega, rfl, hC3, by assumption, hlo, fun x hx h hk => ?_⟩
      by_cases hxm : x = (i + j) / 2
      · subst hxm; exact hm2 hk
      · exact hm2 (keyLt_trans (hr ((i + j) / 2) x (by omega) hx) hk)
  · have : i = j := by omega
    subst this
    clear ih
    by_cases hin : i < G.length
    · obtain ⟨b0, cs0, rfl, hbv, ax⟩ := hb0 (by omega)
      have hbv := hbv.gr hC
      have at1 : ∀ x (_ : x = i), (cs0.drop (off + x * 47)).take 47 = celC encR G[i] := by rintro x rfl; exact ax _ hin
      refine RX.exit rfl ?_; refine RX.seq ?_
      refine RX.draw (Ch Nil w') [9, 10] [(0, true), (1, true), (2, true), (3, true), (4, true), (5, true), (6, true), (7, true), (8, true), (9, true), (10, true), (11, false), (12, true), (13, true), (14, true), (15, true)] mixed (by kernel_rfl) fun w2 gr2 hz2 => ?_
      have hC2 := hC.trans (Ch.of_grow gr2); have hB1d2 := hB1.gr gr2; have hbvd2 := hbv.gr gr2; refine RD.rz rfl (V.mv rfl) ?_; refine RD.rz rfl (V.mv rfl) ?_; refine RD.rz rfl (V.mv rfl) ?_
      refine RD.rz rfl (V.lss rfl rfl) ?_; refine RD.rz rfl (V.mv rfl) ?_; refine RD.splitD (fun h2 => ?_) (fun _ => by omega); refine RD.rzG rfl rfl rfl (V.mv rfl) ?_; refine RD.rzG rfl rfl rfl (V.mv rfl) ?_
      refine RD.rzG rfl rfl rfl (V.mv rfl) ?_; refine RD.rzG rfl rfl rfl (V.idx e148 rfl rfl (by omega)) ?_; refine RD.rdG rfl rfl rfl rfl gr2 (V.ldAR a147 rfl (fun _ hS => hbv.gr hS) rfl (at1 _ (by omega))) ?_
      refine RD.rdG rfl rfl rfl rfl gr2 (V.ldA a145 rfl (fun _ hS => hB1.gr hS) (vs := [_, _]) rfl rfl) ?_
      refine RD.loG rfl rfl rfl (L.callV fn92 rfl rfl (c92 (k1 := G[i].1.1) (k2 := G[i].1.2) (a := k.1) (b := k.2) (vs := encR G[i].2)) ?_)
      rintro _ w3 ⟨rfl, gr3⟩
      have hC3 := hC2.trans gr3
      have hS3 : Ch Nil w' w3 := gr2.trans gr3
      refine ⟨hS3, ?_⟩
      clear hB1 hB1d2 hbv hbvd2
      refine RD.rzG rfl rfl rfl (V.eql rfl rfl) ?_; refine RD.rz rfl (V.pickT rfl rfl) ?_; refine RD.rz rfl (V.as rfl) ?_; refine RD.rz rfl (V.as rfl) ?_; refine RD.nil ?_
      refine RX.rt Tryz.func91 (by rfl) (ResOk.tmp rfl (ResOk.tmp rfl (ResOk.nil))) ?_
      refine ⟨i, hj, fun x hx h => hlo x hx h, fun x hx h => hhi x hx h, ?_, by assumption⟩
      have : decide (∃ h : i < G.length, G[i].1 = k) = decide (cmpK (G[i].1.1, G[i].1.2) (k.1, k.2) = 0) := decide_eq_decide.2 ⟨fun ⟨_, h⟩ => cmpK_eq.2 h, fun h => ⟨hin, cmpK_eq.1 h⟩⟩
      rw [this]; rfl
    · refine RX.exit rfl ?_; refine RX.seq ?_
      refine RX.draw (Ch Nil w') [9, 10] [(0, true), (1, true), (2, true), (3, true), (4, true), (5, true), (6, true), (7, true), (8, true), (9, true), (10, true), (11, false), (12, true), (13, true), (14, true), (15, true)] mixed (by kernel_rfl) fun w2 gr2 hz2 => ?_
      have hC2 := hC.trans (Ch.of_grow gr2); have hB1d2 := hB1.gr gr2; refine RD.rz rfl (V.mv rfl) ?_; refine RD.rz rfl (V.mv rfl) ?_; refine RD.rz rfl (V.mv rfl) ?_; refine RD.rz rfl (V.lss rfl rfl) ?_
      refine RD.rz rfl (V.mv rfl) ?_; refine RD.splitD (fun _ => by omega) fun h2 => ?_; refine RD.skz rfl rfl rfl rfl rfl ?_; refine RD.skz rfl rfl rfl rfl rfl ?_; refine RD.skz rfl rfl rfl rfl rfl ?_
      refine RD.skz rfl rfl rfl rfl rfl ?_; refine RD.sk rfl rfl rfl rfl rfl gr2 rfl ?_; refine RD.sk rfl rfl rfl rfl rfl gr2 rfl ?_; refine RD.skL rfl rfl rfl rfl gr2 ?_; refine RD.skz rfl rfl rfl rfl rfl ?_
      refine RD.rz rfl (V.pickF rfl rfl) ?_; refine RD.rz rfl (V.as rfl) ?_; refine RD.rz rfl (V.as rfl) ?_; refine RD.nil ?_; refine RX.rt Tryz.func91 (by rfl) (ResOk.tmp rfl (ResOk.tmp rfl (ResOk.nil))) ?_
      refine ⟨i, hj, fun x hx h => hlo x hx h, fun x hx h => hhi x hx h, ?_, by assumption⟩
      rw [decide_eq_false (by rintro ⟨h, -⟩; exact hin h)]; rfl
end Go.Proofs.YtmcfbinkofoagaaGreat
