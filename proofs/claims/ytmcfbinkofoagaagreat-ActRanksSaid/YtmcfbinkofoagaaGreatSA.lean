/- Polls, of which no vote was given. -/
import Derived.Test.YtmcfbinkofoagaaGreatRB
namespace Go.Proofs.YtmcfbinkofoagaaGreat
open Go Go.RowKit Sx Go.Proofs

/-- The places of the polls. -/
def polC (pk : Nat → Nat) (n : Nat) : List Value := (List.range 12).map fun i => .pointer (if i < n then some ⟨pk i, 0, none⟩ else none)
theorem polC_len (pk : Nat → Nat) (n : Nat) : (polC pk n).length = 12 := by simp [polC]
theorem polC_at (pk : Nat → Nat) (n : Nat) (l : List Value) {i : Nat} (h : i < 12) : (polC pk n ++ l)[0 + i * 1]? = some (.pointer (if i < n then some ⟨pk i, 0, none⟩ else none)) := by
  rw [Nat.zero_add, Nat.mul_one, List.getElem?_append_left (by rw [polC_len]; exact h)]
  simp [polC, h]
def pkUpd (pk : Nat → Nat) (n b : Nat) (i : Nat) : Nat := if i = n then b else pk i
theorem polC_set (pk : Nat → Nat) (n b : Nat) (l : List Value) (h : n < 12) : setAt (polC pk n ++ l) (0 + n * 1) [.pointer (some ⟨b, 0, none⟩)] = polC (pkUpd pk n b) (n + 1) ++ l := by
  rw [Nat.zero_add, Nat.mul_one, setAt_app _ _ _ _ (by rw [polC_len]; simp; omega)]
  congr 1
  rw [setAt_cons, setAt_nil]
  apply List.ext_getElem?
  intro j
  rw [List.getElem?_set]
  by_cases hj : j < 12
  · by_cases hn : n = j
    · subst hn; simp [polC, h, pkUpd]
    · rw [if_neg hn]
      simp only [polC, List.getElem?_map, List.getElem?_range hj, Option.map_some, pkUpd]
      by_cases h1 : j < n
      · rw [if_pos h1, if_pos (by omega), if_neg (by omega)]
      · rw [if_neg h1, if_neg (by omega)]
  · rw [List.getElem?_eq_none (by rw [polC_len]; omega), List.getElem?_eq_none (by rw [polC_len]; omega)]
    split
    · omega
    · rfl
theorem p75 {w : World} {vb n : Nat} {pk : Nat → Nat} {l : List Value} {r : Int} (hv : Blk w vb (polC pk n ++ l) 130) (hn : n ≤ 12) : Calls Tryz.prog 75 #[.pointer (some ⟨vb, 0, none⟩), .int .i64 r] w
    (Ret fun v w' => v = .pointer (if 0 ≤ r ∧ r < n then some ⟨pk r.toNat, 0, none⟩ else none) ∧ Grow w w') := by
  have at1 : ∀ j (_ : j < 12), (polC pk n ++ l)[0 + j * 1]? = some (.pointer (if j < n then some ⟨pk j, 0, none⟩ else none)) := fun j hj => polC_at pk n l hj
  refine calls_of_rx (args := [_, _]) (e := [(0, _), (1, _)]) (n := 18) Tryz.func75 rfl rfl rfl (by kernel_rfl) rfl ?_
  have hC := Ch.refl Nil w
  refine RX.seq ?_; refine RX.region ?_; refine RU.rd (V.as rfl) ?_; refine RU.nil ?_; refine RX.seq ?_; refine RX.seq ?_; refine RX.region ?_; refine RU.rd (V.mv rfl) ?_; refine RU.rd (V.eqNil u32 rfl rfl) ?_
  refine RU.rd (V.mv rfl) ?_; refine RU.rdG rfl rfl (V.mv rfl) ?_; refine RU.loG rfl rfl (L.call fn76 rfl (c76) ?_); rintro _ w1 ⟨rfl, hq1⟩; rw [hq1]; clear hq1 w1; refine RU.rdG rfl rfl (V.notD rfl) ?_
  refine RU.rd (V.pickF rfl rfl) ?_; refine RU.nil ?_; refine RX.condD rfl (fun h1 => ?_) fun h1 => ?_
  · refine RX.seq ?_; refine RX.region ?_; refine RU.rd (V.as rfl) ?_; refine RU.nil ?_; refine RX.rt Tryz.func75 (by rfl) (ResOk.tmp rfl (ResOk.nil)) ?_
    have : ¬ (0 ≤ r ∧ r < n) := by omega
    exact ⟨by simp [tup, this], by assumption⟩
  · refine RX.skip ?_; refine RX.seq ?_; refine RX.region ?_; refine RU.rd (V.mv rfl) ?_; refine RU.rd (V.mv rfl) ?_; refine RU.rd (V.nck rfl) ?_; refine RU.rd (V.fld0 f130_0 rfl) ?_
    refine RU.rd (V.idxA ar128 rfl rfl (by omega)) ?_; refine RU.rd (V.ld s127 rfl (cur hv) (at1 _ (by omega))) ?_; refine RU.rd (V.as rfl) ?_; refine RU.nil ?_
    refine RX.rt Tryz.func75 (by rfl) (ResOk.tmp rfl (ResOk.nil)) ?_
    refine ⟨?_, by assumption⟩
    show Value.pointer _ = _
    congr 1
    by_cases h : r.toNat < n
    · rw [if_pos h, if_pos (by omega)]
    · rw [if_neg h, if_neg (by omega)]
theorem p75i {w : World} {vb n : Nat} {pk : Nat → Nat} {l : List Value} {i : Nat} (hv : Blk w vb (polC pk n ++ l) 130) (hn : n ≤ 12) (hi : i < n) : Calls Tryz.prog 75 #[.pointer (some ⟨vb, 0, none⟩), .int .i64 i] w (Ret fun v w' => v = .pointer (some ⟨pk i, 0, none⟩) ∧ Grow w w') := by
  have := p75 (r := i) hv hn
  rwa [if_pos (by omega)] at this
theorem p75n {w : World} {vb n : Nat} {pk : Nat → Nat} {l : List Value} {r : Int} (hv : Blk w vb (polC pk n ++ l) 130) (hn : n ≤ 12) (hi : ¬ (0 ≤ r ∧ r < n)) : Calls Tryz.prog 75 #[.pointer (some ⟨vb, 0, none⟩), .int .i64 r] w (Ret fun v w' => v = .pointer none ∧ Grow w w') := by
  have := p75 (r := r) hv hn
  rwa [if_neg hi] at this
theorem c107 {w : World} {vb n : Nat} {pk : Nat → Nat} {l : List Value} {r : Int} {i : Nat} {tr st en : Int} (hv : Blk w vb (polC pk n ++ l) 130) (hn : n ≤ 12) (hr : r = i) (hi : i < n) (hp : Blk w (pk i) [.int .i64 tr, .int .i64 0, .int .i64 0, .int .i64 0, .int .i64 st, .int .i64 en] 167) : Calls Tryz.prog 107 #[.pointer (some ⟨vb, 0, none⟩), .int .i64 r] w
    (Ret fun v w' => v = .agg #[.int .i64 0, .int .i64 0, .int .i64 0] ∧ Grow w w') := by
  subst hr
  refine calls_of_rx (args := [_, _]) (e := [(0, _), (1, _)]) (n := 16) Tryz.func107 rfl rfl rfl (by kernel_rfl) rfl ?_
  have hC := Ch.refl Nil w
  have uq := True.intro
  refine RX.seq ?_; refine RX.region ?_; refine RU.lo (L.al hC z42 fun b1 w1 hb1 le1 hC1 gr1 hz1 hB1 => ?_); refine RU.nil ?_; refine RX.seq ?_; refine RX.region ?_; refine RU.rd (V.mv rfl) ?_; refine RU.rd (V.mv rfl) ?_
  refine RU.lo (L.call fn75 rfl (p75i (hv.gr gr1) hn hi) ?_)
  rintro _ w2 ⟨rfl, gr2⟩
  have hC2 := hC1.trans gr2
  replace hB1 := hB1.gr gr2
  have lp := hp.lt
  refine RU.rd (V.as rfl) ?_; refine RU.nil ?_; refine RX.seq ?_; refine RX.seq ?_; refine RX.region ?_; refine RU.rd (V.mv rfl) ?_; refine RU.rd (V.eqNil u127 rfl rfl) ?_; refine RU.nil ?_; refine RX.condF rfl ?_
  refine RX.skip ?_; refine RX.seq ?_; refine RX.region ?_; refine RU.rd (V.mv rfl) ?_; refine RU.rd (V.nck rfl) ?_; refine RU.rd (V.fld0 f167_1 rfl) ?_
  refine RU.rd (V.ldA a42 rfl (cur (hp.gr hC2)) (vs := [_, _, _]) rfl rfl) ?_; refine RU.lo0 (L.stN hC2 sz42 rfl rfl rfl rfl hB1 rfl le1 fun w3 hC3 ch3 hz3 hB1 => ?_); refine RU.nil ?_
  refine RX.rt Tryz.func107 (by rfl) (ResOk.cellA rfl a42 hB1 (Nat.le_of_ble_eq_true rfl) (us := [_, _, _]) rfl (ResOk.nil)) ?_
  exact ⟨rfl, by assumption⟩
theorem c53 {w : World} {vb n : Nat} {pk : Nat → Nat} {l : List Value} {r t : Int} (hv : Blk w vb (polC pk n ++ l) 130) (hr : r = n) (hn : n < 12) (ht : 0 ≤ t ∧ t ≤ 3) : Calls Tryz.prog 53 #[.pointer (some ⟨vb, 0, none⟩), .int .i64 r, .int .i64 t] w
    (Ret fun v w' => ∃ b, v = .int .i64 0 ∧ Ch (· = vb) w w' ∧ w.heap.size ≤ b ∧ b < w'.heap.size ∧ Blk w' vb (polC (pkUpd pk n b) (n + 1) ++ l) 130 ∧ Blk w' b [.int .i64 t, .int .i64 0, .int .i64 0, .int .i64 0, .int .i64 0, .int .i64 0] 167) := by
  subst hr
  have lv := hv.lt
  refine calls_of_rx (args := [_, _, _]) (e := [(0, _), (1, _), (2, _)]) (n := 33) Tryz.func53 rfl rfl rfl (by kernel_rfl) rfl ?_
  have hC := Ch.refl (· = vb) w
  have uq := True.intro
  refine RX.seq ?_; refine RX.region ?_; refine RU.rd (V.as rfl) ?_; refine RU.nil ?_; refine RX.seq ?_; refine RX.block ?_; refine RX.seq ?_; refine RX.region ?_; refine RU.rd (V.mv rfl) ?_
  refine RU.rd (V.eqNil u32 rfl rfl) ?_; refine RU.rd (V.mv rfl) ?_; refine RU.rdG rfl rfl (V.mv rfl) ?_; refine RU.loG rfl rfl (L.call fn76 rfl (c76) ?_); rintro _ w1 ⟨rfl, hq1⟩; rw [hq1]; clear hq1 w1
  refine RU.rdG rfl rfl (V.notD rfl) ?_; refine RU.rd (V.pickF rfl rfl) ?_; refine RU.rd (V.mv rfl) ?_; refine RU.splitD (fun _ => by omega) fun h1 => ?_; refine RU.rdG rfl rfl (V.mv rfl) ?_
  refine RU.loG rfl rfl (L.call fn78 rfl (c78) ?_); rintro _ w1 ⟨rfl, hq1⟩; rw [hq1]; clear hq1 w1; refine RU.rdG rfl rfl (V.notD rfl) ?_; refine RU.rd (V.pickF rfl rfl) ?_; refine RU.rd (V.as rfl) ?_; refine RU.nil ?_
  refine RX.condD rfl (fun _ => by omega) fun h2 => ?_; refine RX.seq ?_; refine RX.region ?_; refine RU.rd (V.mv rfl) ?_; refine RU.rd (V.mv rfl) ?_
  refine RU.lo (L.call fn75 rfl (p75n hv (by omega) (by omega)) ?_)
  rintro _ w1 ⟨rfl, gr1⟩
  have hC1 : Ch (· = vb) w w1 := hC.trans (.of_grow gr1)
  have z1 := gr1.size
  refine RU.rd (V.neNil u127 rfl rfl) ?_; refine RU.rd (V.as rfl) ?_; refine RU.nil ?_; refine RX.condF rfl ?_; refine RX.skip ?_; refine RX.inBlock ?_; refine RX.seq ?_; refine RX.region ?_; refine RU.rd (V.mv rfl) ?_
  refine RU.rd (V.mv rfl) ?_; refine RU.rd (V.mv rfl) ?_; refine RU.rd (V.bld bf167 z167 rfl rfl) ?_; refine RU.lo (L.bx hC1 rfl fun b2 w2 hb2 le2 hC2 gr2 hz2 hB2 => ?_); refine RU.rd (V.nck rfl) ?_
  refine RU.rd (V.fld0 f130_0 rfl) ?_; refine RU.rd (V.idxA ar128 rfl rfl (by omega)) ?_
  have ln1 : (polC pk n ++ l).length = 12 + l.length := by rw [List.length_append, polC_len]
  refine RU.lo0 (L.st hC2 sz127 rfl rfl rfl rfl (hv.gr (gr1.trans gr2)) (by rw [ln1]; omega) (.inr rfl) fun w3 hC3 ch3 hz3 hB3 => ?_)
  have hB2' := hB2.ch ch3 (by omega)
  refine RU.nil ?_; refine RX.seq ?_; refine RX.region ?_; refine RU.rd (V.as rfl) ?_; refine RU.nil ?_; refine RX.rt Tryz.func53 (by rfl) (ResOk.tmp rfl (ResOk.nil)) ?_
  exact ⟨b2, rfl, hC3, le2, by omega, polC_set pk n b2 l hn ▸ hB3, hB2'⟩
/-- There is no such poll. -/
theorem c51n {w : World} {vb n : Nat} {pk : Nat → Nat} {l : List Value} {r s e : Int} (hv : Blk w vb (polC pk n ++ l) 130) (hr : r = n) (hn : n < 12) : Calls Tryz.prog 51 #[.pointer (some ⟨vb, 0, none⟩), .int .i64 r, .int .i64 s, .int .i64 e] w
    (Ret fun v w' => v = .int .i64 4 ∧ Grow w w') := by
  subst hr
  refine calls_of_rx (args := [_, _, _, _]) (e := [(0, _), (1, _), (2, _), (3, _)]) (n := 37) Tryz.func51 rfl rfl rfl (by kernel_rfl) rfl ?_
  have hC := Ch.refl Nil w
  refine RX.seq ?_; refine RX.region ?_; refine RU.rd (V.as rfl) ?_; refine RU.nil ?_; refine RX.seq ?_; refine RX.region ?_; refine RU.rd (V.mv rfl) ?_; refine RU.rd (V.mv rfl) ?_
  refine RU.lo (L.call fn75 rfl (p75n hv (by omega) (by omega)) ?_)
  rintro _ w1 ⟨rfl, gr1⟩
  have hC1 := hC.trans gr1
  refine RU.rd (V.as rfl) ?_; refine RU.nil ?_; refine RX.seq ?_; refine RX.block ?_; refine RX.seq ?_; refine RX.region ?_; refine RU.rd (V.mv rfl) ?_; refine RU.rd (V.eqNil u32 rfl rfl) ?_; refine RU.rd (V.as rfl) ?_
  refine RU.nil ?_; refine RX.condF rfl ?_; refine RX.seq ?_; refine RX.region ?_; refine RU.rd (V.mv rfl) ?_; refine RU.rd (V.eqNil u127 rfl rfl) ?_; refine RU.rd (V.as rfl) ?_; refine RU.nil ?_; refine RX.condT rfl ?_
  refine RX.seq ?_; refine RX.region ?_; refine RU.rd (V.as rfl) ?_; refine RU.nil ?_; refine RX.rt Tryz.func51 (by rfl) (ResOk.tmp rfl (ResOk.nil)) ?_
  exact ⟨rfl, hC1⟩
/-- An open poll is ended. -/
theorem c51 {w : World} {vb n : Nat} {pk : Nat → Nat} {l : List Value} {r s e : Int} {i : Nat} {tr : Int} (hv : Blk w vb (polC pk n ++ l) 130) (hn : n ≤ 12) (hr : r = i) (hi : i < n) (hp : Blk w (pk i) [.int .i64 tr, .int .i64 0, .int .i64 0, .int .i64 0, .int .i64 0, .int .i64 0] 167) (hs : 2 ≤ s ∧ s ≤ 6) : Calls Tryz.prog 51 #[.pointer (some ⟨vb, 0, none⟩), .int .i64 r, .int .i64 s, .int .i64 e] w
    (Ret fun v w' => v = .int .i64 0 ∧ Ch (· = pk i) w w' ∧ Blk w' (pk i) [.int .i64 tr, .int .i64 0, .int .i64 0, .int .i64 0, .int .i64 s, .int .i64 e] 167) := by
  subst hr
  refine calls_of_rx (args := [_, _, _, _]) (e := [(0, _), (1, _), (2, _), (3, _)]) (n := 37) Tryz.func51 rfl rfl rfl (by kernel_rfl) rfl ?_
  have hC := Ch.refl (· = pk i) w
  refine RX.seq ?_; refine RX.region ?_; refine RU.rd (V.as rfl) ?_; refine RU.nil ?_; refine RX.seq ?_; refine RX.region ?_; refine RU.rd (V.mv rfl) ?_; refine RU.rd (V.mv rfl) ?_
  refine RU.lo (L.call fn75 rfl (p75i hv hn hi) ?_)
  rintro _ w1 ⟨rfl, gr1⟩
  have hC1 : Ch (· = pk i) w w1 := hC.trans (.of_grow gr1)
  have hp := hp.gr gr1
  refine RU.rd (V.as rfl) ?_; refine RU.nil ?_; refine RX.seq ?_; refine RX.block ?_; refine RX.seq ?_; refine RX.region ?_; refine RU.rd (V.mv rfl) ?_; refine RU.rd (V.eqNil u32 rfl rfl) ?_; refine RU.rd (V.as rfl) ?_
  refine RU.nil ?_; refine RX.condF rfl ?_; refine RX.seq ?_; refine RX.region ?_; refine RU.rd (V.mv rfl) ?_; refine RU.rd (V.eqNil u127 rfl rfl) ?_; refine RU.rd (V.as rfl) ?_; refine RU.nil ?_; refine RX.condF rfl ?_
  refine RX.seq ?_; refine RX.region ?_; refine RU.rd (V.mv rfl) ?_; refine RU.rd (V.nck rfl) ?_; refine RU.rd (V.fld0 f167_2 rfl) ?_; refine RU.rd (V.ld s3 rfl (cur hp) rfl) ?_; refine RU.rd (V.neq rfl rfl) ?_
  refine RU.rd (V.as rfl) ?_; refine RU.nil ?_; refine RX.condF rfl ?_; refine RX.seq ?_; refine RX.region ?_; refine RU.rd (V.mv rfl) ?_; refine RU.lo (L.call fn76 rfl (c76) ?_); rintro _ w2 ⟨rfl, hq2⟩; rw [hq2]
  clear hq2 w2; refine RU.rd (V.notD rfl) ?_; refine RU.rd (V.as rfl) ?_; refine RU.nil ?_; refine RX.condD rfl (fun _ => by omega) fun h1 => ?_; refine RX.skip ?_; refine RX.inBlock ?_; refine RX.seq ?_
  refine RX.region ?_; refine RU.rd (V.mv rfl) ?_; refine RU.rd (V.mv rfl) ?_; refine RU.rd (V.mv rfl) ?_; refine RU.rd (V.mv rfl) ?_; refine RU.rd (V.nck rfl) ?_; refine RU.rd (V.fld0 f167_2 rfl) ?_
  refine RU.lo0 (L.st hC1 sz3 rfl rfl rfl rfl hp (Nat.le_of_ble_eq_true rfl) (.inr rfl) fun w2 hC2 ch2 hz2 hB2 => ?_); refine RU.rd (V.nck rfl) ?_; refine RU.rd (V.fld0 f167_3 rfl) ?_
  refine RU.lo0 (L.st hC2 sz3 rfl rfl rfl rfl hB2 (Nat.le_of_ble_eq_true rfl) (.inr rfl) fun w3 hC3 ch3 hz3 hB3 => ?_); refine RU.nil ?_; refine RX.seq ?_; refine RX.region ?_; refine RU.rd (V.as rfl) ?_; refine RU.nil ?_
  refine RX.rt Tryz.func51 (by rfl) (ResOk.tmp rfl (ResOk.nil)) ?_
  exact ⟨rfl, by assumption, hB3⟩
end Go.Proofs.YtmcfbinkofoagaaGreat
