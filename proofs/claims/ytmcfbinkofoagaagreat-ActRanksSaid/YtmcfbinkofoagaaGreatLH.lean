/- All that there is. -/
import Derived.Test.YtmcfbinkofoagaaGreatLG
namespace Go.Proofs.YtmcfbinkofoagaaGreat
open Go Go.RowKit Sx Go.Proofs

theorem totalOf_take : ∀ {l : List (Int × Int)} (i : Nat) (h : i < l.length), totalOf (l.take (i + 1)) = totalOf (l.take i) + (l[i].1 + l[i].2)
  | x :: r, 0, _ => by simp [totalOf]
  | x :: r, i + 1, h => by
    have := totalOf_take (l := r) i (by simpa using h)
    simp only [List.take_succ_cons, totalOf, List.getElem_cons_succ, this]; omega
theorem totalOf_split : ∀ (l : List (Int × Int)) (i : Nat), totalOf l = totalOf (l.take i) + totalOf (l.drop i)
  | [], i => by simp [totalOf]
  | x :: r, 0 => by simp [totalOf]
  | x :: r, i + 1 => by
    have := totalOf_split r i
    simp only [List.take_succ_cons, List.drop_succ_cons, totalOf, this]; omega
theorem totalOf_take_le {l : List (Int × Int)} (h : ∀ x ∈ l, 0 ≤ x.1 ∧ 0 ≤ x.2) (i : Nat) : 0 ≤ totalOf (l.take i) ∧ totalOf (l.take i) ≤ totalOf l := by
  have h1 := totalOf_split l i
  have h2 := totalOf_nn (l := l.drop i) fun x hx => h x (List.mem_of_mem_drop hx)
  have h3 := totalOf_nn (l := l.take i) fun x hx => h x (List.mem_of_mem_take hx)
  omega

theorem c40 {w : World} {g : LG} {D : Led} (h : LedAt w g D) (h0 : ∀ x ∈ D.acc, 0 ≤ x.1 ∧ 0 ≤ x.2) (h1 : totalOf D.acc ≤ 1000000000000) : Calls Tryz.prog 40 #[.pointer (some ⟨g.lb, 0, none⟩)] w (Ret fun v w' => v = .int .i64 (totalOf D.acc) ∧ Grow w w') := by
  have hl := h.hl
  have hb := h.hb
  have ha := h.ha
  have at1 := accC_at D.acc g.sp
  refine calls_of_rx (args := [_]) (e := [(0, _)]) (n := 26) Tryz.func40 rfl rfl rfl (by kernel_rfl) rfl ?_
  have hC := Ch.refl Nil w
  refine RX.seq ?_; refine RX.region ?_; refine RU.rd (V.as rfl) ?_; refine RU.nil ?_; refine RX.seq ?_; refine RX.region ?_; refine RU.rd (V.as rfl) ?_; refine RU.nil ?_; refine RX.seq ?_; refine RX.seq ?_
  refine RX.region ?_; refine RU.rd (V.mv rfl) ?_; refine RU.rd (V.neNil u31 rfl rfl) ?_; refine RU.nil ?_; refine RX.condT rfl ?_; refine RX.seq ?_; refine RX.region ?_; refine RU.rd (V.mv rfl) ?_
  refine RU.rd (V.nck rfl) ?_; refine RU.rd (V.fld0 f106_0 rfl) ?_; refine RU.rd (V.ld s104 rfl (cur hb) rfl) ?_; refine RU.rd (V.len u104 rfl) ?_; refine RU.rd (V.mv rfl) ?_; refine RU.nil ?_; refine RX.block ?_
  refine RX.keep [(3, _), (11, _), (12, _), (13, _)] ⟨rfl, rfl, rfl, rfl, trivial⟩ ?_
  refine RX.loop (fun d e w' => ∃ i : Nat, d = 10 - i ∧ i ≤ 10 ∧ e = [(3, .int .i64 (totalOf (D.acc.take i))), (11, .slice (some ⟨g.ab, 0, none⟩) 10 g.c), (12, .int .i64 10), (13, .int .i64 i)] ∧ Grow w w') (10 - 0) ⟨0, rfl, by omega, rfl, hC⟩ ?_
  rintro d e w' ⟨i, rfl, hi, rfl, hC1⟩ ih
  refine RX.seq ?_; refine RX.region ?_; refine RU.rd (V.lss rfl rfl) ?_; refine RU.nil ?_; refine RX.seq ?_; refine RX.condD rfl (fun h2 => ?_) fun h2 => ?_
  · have hi' : i < D.acc.length := by omega
    have hs := totalOf_take_le h0 i
    have hi2 : (i : Int).toNat < D.acc.length := by omega
    have hx : 0 ≤ D.acc[(i : Int).toNat].1 ∧ 0 ≤ D.acc[(i : Int).toNat].2 := h0 _ (List.getElem_mem hi2)
    have hy : totalOf (D.acc.take (i + 1)) = totalOf (D.acc.take i) + (D.acc[(i : Int).toNat].1 + D.acc[(i : Int).toNat].2) := totalOf_take i hi'
    have hs2 := totalOf_take_le h0 (i + 1)
    refine RX.skip ?_; refine RX.seq ?_; refine RX.block ?_; refine RX.seq ?_; refine RX.region ?_; refine RU.rd (V.idx e104 rfl rfl (by omega)) ?_; refine RU.rd (V.ldA a93 rfl (cur (ha.gr hC1)) rfl (at1 _ (by omega))) ?_
    refine RU.lo (L.al hC1 z93 fun b1 w1 hb1 le1 hC1 gr1 hz1 hB1 => ?_); refine RU.lo0 (L.stN hC1 sz93 rfl rfl rfl rfl hB1 rfl le1 fun w2 hC2 ch2 hz2 hB1 => ?_); refine RU.nil ?_; refine RX.region ?_
    refine RU.rd (V.mv rfl) ?_; refine RU.rd (V.fld0 f93_0 rfl) ?_; refine RU.rd (V.ld s3 rfl (cur hB1) rfl) ?_; refine RU.rd (V.fld0 f93_1 rfl) ?_; refine RU.rd (V.ld s3 rfl (cur hB1) rfl) ?_
    refine RU.rd (V.add rfl rfl (by omega)) ?_; refine RU.rd (V.add rfl rfl (by omega)) ?_; refine RU.rd (V.as rfl) ?_; refine RU.nil ?_; refine RX.inBlock ?_; refine RX.region ?_; refine RU.rd (V.add rfl rfl (by omega)) ?_
    refine RU.rd (V.mv rfl) ?_; refine RU.nil ?_
    refine RX.keep [(3, _), (11, _), (12, _), (13, _)] ⟨rfl, rfl, rfl, rfl, trivial⟩ ?_
    exact ih (10 - (i + 1)) (by omega) _ _ ⟨i + 1, rfl, by omega, by rw [hy]; rfl, by assumption⟩
  · have : i = 10 := by omega
    subst this
    refine RX.exit rfl ?_; refine RX.seq ?_; refine RX.region ?_; refine RU.rd (V.mv rfl) ?_; refine RU.rd (V.as rfl) ?_; refine RU.nil ?_; refine RX.rt Tryz.func40 (by rfl) (ResOk.tmp rfl (ResOk.nil)) ?_
    exact ⟨by rw [List.take_of_length_le (by omega)]; rfl, by assumption⟩
end Go.Proofs.YtmcfbinkofoagaaGreat
