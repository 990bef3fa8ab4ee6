/- What is free, held and locked of an account, and what it may spend. -/
import Derived.Test.YtmcfbinkofoagaaGreatLA
namespace Go.Proofs.YtmcfbinkofoagaaGreat
open Go Go.RowKit Sx Go.Proofs

theorem c13 {w : World} {g : LG} {D : Led} {a : Int} (h : LedAt w g D) : Calls Tryz.prog 13 #[.pointer (some ⟨g.lb, 0, none⟩), .int .i64 a] w (Ret fun v w' => v = .int .i64 (D.at a).1 ∧ Grow w w') := by
  refine calls_of_rx (args := [_, _]) (e := [(0, _), (1, _)]) (n := 15) Tryz.func13 rfl rfl rfl (by kernel_rfl) rfl ?_
  have hC := Ch.refl Nil w
  refine RX.seq ?_; refine RX.region ?_; refine RU.rd (V.as rfl) ?_; refine RU.nil ?_; refine RX.seq ?_; refine RX.region ?_; refine RU.rd (V.mv rfl) ?_; refine RU.rd (V.mv rfl) ?_; refine RU.lo (L.call fn30 rfl (c30 h) ?_)
  rintro _ w1 ⟨rfl, gr1⟩; have hC1 := hC.trans (Ch.of_grow gr1); refine RU.rd (V.mv rfl) ?_; refine RU.rd (V.ext rfl rfl) ?_; refine RU.rd (V.ext rfl rfl) ?_
  refine RU.lo (L.al hC1 z93 fun b1 w1 hb1 le1 hC1 gr1 hz1 hB1 => ?_); refine RU.lo0 (L.stN hC1 sz93 rfl rfl rfl rfl hB1 rfl le1 fun w2 hC2 ch2 hz2 hB1 => ?_); refine RU.rd (V.as rfl) ?_; refine RU.nil ?_; refine RX.seq ?_
  refine RX.region ?_; refine RU.rd (V.fld0 f93_0 rfl) ?_; refine RU.rd (V.ld s3 rfl (cur hB1) rfl) ?_; refine RU.rd (V.as rfl) ?_; refine RU.nil ?_; refine RX.rt Tryz.func13 (by rfl) (ResOk.tmp rfl (ResOk.nil)) ?_
  exact ⟨rfl, by assumption⟩
theorem c36 {w : World} {g : LG} {D : Led} {a : Int} (h : LedAt w g D) : Calls Tryz.prog 36 #[.pointer (some ⟨g.lb, 0, none⟩), .int .i64 a] w (Ret fun v w' => v = .int .i64 (D.at a).2 ∧ Grow w w') := by
  refine calls_of_rx (args := [_, _]) (e := [(0, _), (1, _)]) (n := 15) Tryz.func36 rfl rfl rfl (by kernel_rfl) rfl ?_
  have hC := Ch.refl Nil w
  refine RX.seq ?_; refine RX.region ?_; refine RU.rd (V.as rfl) ?_; refine RU.nil ?_; refine RX.seq ?_; refine RX.region ?_; refine RU.rd (V.mv rfl) ?_; refine RU.rd (V.mv rfl) ?_; refine RU.lo (L.call fn30 rfl (c30 h) ?_)
  rintro _ w1 ⟨rfl, gr1⟩; have hC1 := hC.trans (Ch.of_grow gr1); refine RU.rd (V.mv rfl) ?_; refine RU.rd (V.ext rfl rfl) ?_; refine RU.rd (V.ext rfl rfl) ?_
  refine RU.lo (L.al hC1 z93 fun b1 w1 hb1 le1 hC1 gr1 hz1 hB1 => ?_); refine RU.lo0 (L.stN hC1 sz93 rfl rfl rfl rfl hB1 rfl le1 fun w2 hC2 ch2 hz2 hB1 => ?_); refine RU.rd (V.as rfl) ?_; refine RU.nil ?_; refine RX.seq ?_
  refine RX.region ?_; refine RU.rd (V.fld0 f93_1 rfl) ?_; refine RU.rd (V.ld s3 rfl (cur hB1) rfl) ?_; refine RU.rd (V.as rfl) ?_; refine RU.nil ?_; refine RX.rt Tryz.func36 (by rfl) (ResOk.tmp rfl (ResOk.nil)) ?_
  exact ⟨rfl, by assumption⟩
theorem c39 {n : Int} {w : World} : Calls Tryz.prog 39 #[.int .i64 n] w (Ret fun v w' => v = .bool (decide (0 ≤ n ∧ n ≤ 1073741824)) ∧ w' = w) := by
  refine calls_of_rx (args := [_]) (e := [(0, _)]) (n := 9) Tryz.func39 rfl rfl rfl (by kernel_rfl) rfl ?_
  have hC := Ch.refl Nil w
  refine RX.seq ?_; refine RX.region ?_; refine RU.rd (V.as rfl) ?_; refine RU.nil ?_; refine RX.seq ?_; refine RX.region ?_; refine RU.rd (V.mv rfl) ?_; refine RU.rd (V.geq rfl rfl) ?_; refine RU.rd (V.mv rfl) ?_
  refine RU.splitD (fun h1 => ?_) fun h1 => ?_
  · refine RU.rdG rfl rfl (V.mv rfl) ?_; refine RU.rdG rfl rfl (V.leq rfl rfl) ?_; refine RU.rd (V.pickT rfl rfl) ?_; refine RU.rd (V.as rfl) ?_; refine RU.nil ?_
    refine RX.rt Tryz.func39 (by rfl) (ResOk.tmp rfl (ResOk.nil)) ?_; simp [tup, *]
  · refine RU.sk rfl rfl rfl ?_; refine RU.sk rfl rfl rfl ?_; refine RU.rd (V.pickF rfl rfl) ?_; refine RU.rd (V.as rfl) ?_; refine RU.nil ?_; refine RX.rt Tryz.func39 (by rfl) (ResOk.tmp rfl (ResOk.nil)) ?_
    simp [tup, *]
theorem c111 {w : World} {g : LG} {D : Led} {a : Int} (h : LedAt w g D) : Calls Tryz.prog 111 #[.pointer (some ⟨g.lb, 0, none⟩), .int .i64 a] w
    (Ret fun v w' => Grow w w' ∧ ∃ B, IterV Tryz.prog v (rowI a D.locks) B w' ∧ ∀ b, B b → (g.foot b ∨ w.heap.size ≤ b) ∧ b < w'.heap.size) := by
  have hb := h.hb
  have hg := h.hg
  have hk := h.hk
  refine calls_of_rx (args := [_, _]) (e := [(0, _), (1, _)]) (n := 15) Tryz.func111 rfl rfl rfl (by kernel_rfl) rfl ?_
  have hC := Ch.refl Nil w
  refine RX.seq ?_; refine RX.region ?_; refine RU.rd (V.as rfl) ?_; refine RU.nil ?_; refine RX.seq ?_; refine RX.seq ?_; refine RX.region ?_; refine RU.rd (V.mv rfl) ?_; refine RU.rd (V.eqNil u31 rfl rfl) ?_
  refine RU.nil ?_; refine RX.condF rfl ?_; refine RX.skip ?_; refine RX.seq ?_; refine RX.region ?_; refine RU.rd (V.mv rfl) ?_; refine RU.rd (V.nck rfl) ?_; refine RU.rd (V.fld0 f106_1 rfl) ?_
  refine RU.rd (V.ld s102 rfl (cur hb) rfl) ?_; refine RU.rd (V.mv rfl) ?_
  refine RU.lo (L.call fn113 rfl (c113 hg (by omega)) ?_)
  rintro v w1 ⟨g1, B, hv, hB⟩
  refine RU.rd (V.as rfl) ?_; refine RU.nil ?_; refine RX.rt Tryz.func111 (by rfl) (ResOk.tmp rfl (ResOk.nil)) ?_
  exact ⟨g1, B, hv, fun b hb => ⟨(hB b hb).1.imp (fun h => .inr (.inr (.inr ⟨_, h⟩))) id, (hB b hb).2⟩⟩

def maxOf (l : List (Int × Int)) : Int := l.foldl (fun m x => max m x.2) 0
def Led.lockd (D : Led) (a : Int) : Int := maxOf (rowOf a D.locks)
theorem maxOf_take {l : List (Int × Int)} {i : Nat} (h : i < l.length) : maxOf (l.take (i + 1)) = max (maxOf (l.take i)) l[i].2 := by
  rw [maxOf, maxOf, List.take_succ_eq_append_getElem h, List.foldl_append]; rfl
theorem c103 {w : World} {g : LG} {D : Led} {a : Int} (h : LedAt w g D) : Calls Tryz.prog 103 #[.pointer (some ⟨g.lb, 0, none⟩), .int .i64 a] w (Ret fun v w' => v = .int .i64 (D.lockd a) ∧ Grow w w') := by
  refine calls_of_rx (args := [_, _]) (e := [(0, _), (1, _)]) (n := 17) Tryz.func103 rfl rfl rfl (by kernel_rfl) rfl ?_
  have hC := Ch.refl Nil w
  refine RX.seq ?_; refine RX.region ?_; refine RU.rd (V.as rfl) ?_; refine RU.nil ?_; refine RX.seq ?_; refine RX.region ?_; refine RU.lo (L.al hC z3 fun b1 w1 hb1 le1 hC1 gr1 hz1 hB1 => ?_)
  refine RU.lo0 (L.stN hC1 sz3 rfl rfl rfl rfl hB1 rfl le1 fun w2 hC2 ch2 hz2 hB1 => ?_); refine RU.nil ?_; refine RX.seq ?_; refine RX.seq ?_; refine RX.region ?_; refine RU.rd (V.mv rfl) ?_; refine RU.rd (V.mv rfl) ?_
  refine RU.lo (L.call fn111 rfl (c111 (h.gr hC2)) ?_)
  rintro _ w3 ⟨gr3, B, ⟨gf, cap, rfl, hf, hit⟩, hB⟩
  have hC3 := hC2.trans gr3
  have hB1 := hB1.gr gr3
  have hz := hC2.size
  have hl1 := hB1.lt
  have hft := h.lt
  refine RU.nil ?_; refine RX.block ?_
  refine RX.rangeF (B := B) (fun i w' => Grow w w' ∧ Blk w' b1 [.int .i64 (maxOf ((rowOf a D.locks).take i))] 3) (fun _ _ => False) rfl hf (fun w1' gr1 _ => hit w1' gr1) (by simp [rowI]; rintro it x y _ rfl; rfl) ?_ ?_ ?_ ?_ ?_ ?_ ?_
  · intro b hb hs; have := (hB b hs).2; omega
  · rintro i w1' w2' ⟨hg, hb⟩ hc; exact ⟨hg.cel hc hC3.size, hb.cel hc⟩
  · exact fun _ _ _ h _ => h
  · exact ⟨hC3, hB1⟩
  · rintro l i it w1' r hit' ⟨hg, hb⟩ hlo hle hlt hnB
    obtain ⟨hi, rfl⟩ : ∃ hi : i < (rowOf a D.locks).length, [.int .i64 (rowOf a D.locks)[i].1, .int .i64 (rowOf a D.locks)[i].2] = it := by
      rw [List.getElem?_eq_some_iff] at hit'
      obtain ⟨hi, rfl⟩ := hit'
      exact ⟨by simpa [rowI] using hi, by simp [rowI]⟩
    dsimp only [paramEnv]
    have hC := Ch.refl Nil w1'
    refine RX.region ?_; refine RU.rd (V.as rfl) ?_; refine RU.nil ?_
    have hCel := Cel.refl w3.heap.size w1'
    refine RX.beginRound hC hlo hnB hle fun wb hcl hzb hlb => ?_
    have hC := Ch.refl (· = b1) wb
    have hb := hb.cel hcl
    have hg := hg.cel hcl hC3.size
    refine RX.block ?_; refine RX.region ?_; refine RU.rd (V.ld s3 rfl (cur hb) rfl) ?_; refine RU.rd (V.mv rfl) ?_; refine RU.rd (V.max rfl rfl) ?_
    refine RU.lo0 (L.st hC sz3 rfl rfl rfl rfl hb (Nat.le_of_ble_eq_true rfl) (.inr rfl) fun w4 hC4 ch4 hz4 hB4 => ?_); refine RU.nil ?_; refine RX.inBlock ?_
    refine RX.rdT hlb (.of_ch hC4 ?_) hnB hle ⟨hg.trans' hC4 (by rintro b hb rfl; omega), ?_⟩
    · rintro b rfl hlt; exact ⟨hb.isC (by kernel_rfl), fun h => by rcases (hB _ h).1 with h | h; have := hft _ h; omega; omega⟩
    · rw [maxOf_take hi]; exact hB4
  · rintro w1' ⟨hg, hb⟩ hdf
    have hC := Ch.refl Nil w1'
    rw [show (rowI a D.locks).length = (rowOf a D.locks).length by simp [rowI], List.take_length] at hb
    refine RX.inBlock ?_; refine RX.seq ?_; refine RX.region ?_; refine RU.rd (V.ld s3 rfl (cur hb) rfl) ?_; refine RU.rd (V.as rfl) ?_; refine RU.nil ?_
    refine RX.rtD Tryz.func103 (by rfl) (by simpa using hdf) (by simp) fun w2' _ hcl _ => ⟨.tmp rfl .nil, rfl, hg.cel (hcl w3.heap.size (by simp)) hC3.size⟩
  · exact fun _ _ _ h _ => h.elim
end Go.Proofs.YtmcfbinkofoagaaGreat
