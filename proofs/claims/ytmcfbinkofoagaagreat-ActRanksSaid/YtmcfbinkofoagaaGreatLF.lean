/- What is held is given back, or goes to the treasury. -/
import Derived.Test.YtmcfbinkofoagaaGreatLE
namespace Go.Proofs.YtmcfbinkofoagaaGreat
open Go Go.RowKit Sx Go.Proofs

/-- How much of what is held is taken. -/
def Led.tk (D : Led) (a n : Int) : Int := if Led.is a then max (min n (D.at a).2) 0 else 0
def Led.tks (D : Led) (a n : Int) : Led := if Led.is a then D.put a ((D.at a).1, (D.at a).2 - D.tk a n) else D
theorem Led.put_ok {D : Led} (ho : D.Ok) (hl : D.acc.length = 10) {a : Int} (ha : Led.is a) {x : Int × Int} (h0 : 0 ≤ x.1 ∧ 0 ≤ x.2) (h1 : totalOf D.acc - ((D.at a).1 + (D.at a).2) + (x.1 + x.2) ≤ 1073741824) : (D.put a x).Ok := by
  have hlt : a.toNat < D.acc.length := by have := ha.1; have := ha.2; omega
  refine ⟨fun y hy => ?_, ?_⟩
  · rcases List.mem_or_eq_of_mem_set hy with h | rfl
    · exact ho.1 y h
    · exact h0
  · rw [Led.at_of ha.1 hlt hl] at h1
    rw [Led.put, totalOf_set _ _ hlt]; exact h1
theorem Led.tks_len {D : Led} (a n : Int) : (D.tks a n).acc.length = D.acc.length := by unfold Led.tks; split <;> simp [Led.put]
theorem Led.tks_lk {D : Led} (a n : Int) : (D.tks a n).locks = D.locks := by unfold Led.tks; split <;> rfl
theorem Led.tk_nn {D : Led} (a n : Int) : 0 ≤ D.tk a n := by unfold Led.tk; split <;> omega
theorem Led.tks_ok {D : Led} (ho : D.Ok) (hl : D.acc.length = 10) (a n : Int) : (D.tks a n).Ok ∧ totalOf (D.tks a n).acc = totalOf D.acc - D.tk a n := by
  unfold Led.tks
  by_cases h : Led.is a
  · have h1 := ho.at hl a
    have h2 := ho.2
    have h3 : D.tk a n ≤ (D.at a).2 := by rw [Led.tk, if_pos h]; omega
    have h4 := Led.tk_nn (D := D) a n
    have hlt : a.toNat < D.acc.length := by have := h.1; have := h.2; omega
    rw [if_pos h]
    refine ⟨Led.put_ok ho hl h ⟨by dsimp only; omega, by dsimp only; omega⟩ (by dsimp only; omega), ?_⟩
    rw [Led.put, totalOf_set _ _ hlt, ← Led.at_of h.1 hlt hl]; dsimp only; omega
  · rw [if_neg h]; exact ⟨ho, by rw [Led.tk, if_neg h]; omega⟩

theorem c108 {w : World} {g : LG} {D : Led} {a n : Int} (h : LedAt w g D) (ho : D.Ok) : Calls Tryz.prog 108 #[.pointer (some ⟨g.lb, 0, none⟩), .int .i64 a, .int .i64 n] w
    (Ret fun v w' => v = .int .i64 (D.tk a n) ∧ Ch (· = g.ab) w w' ∧ LedAt w' g (D.tks a n)) := by
  have hl := h.hl
  have hb := h.hb
  have ha := h.ha
  have ln1 := accC_len hl g.sp
  have at1 := accC_at1 D.acc g.sp
  have h1 := ho.at hl a
  refine calls_of_rx (args := [_, _, _]) (e := [(0, _), (1, _), (2, _)]) (n := 35) Tryz.func108 rfl rfl rfl (by kernel_rfl) rfl ?_
  have hC := Ch.refl Nil w
  refine RX.seq ?_; refine RX.region ?_; refine RU.rd (V.as rfl) ?_; refine RU.nil ?_; refine RX.seq ?_; refine RX.region ?_; refine RU.rd (V.mv rfl) ?_; refine RU.rd (V.mv rfl) ?_; refine RU.lo (L.call fn30 rfl (c30 h) ?_)
  rintro _ w1 ⟨rfl, gr1⟩; have hC1 := hC.trans (Ch.of_grow gr1); refine RU.rd (V.mv rfl) ?_; refine RU.rd (V.ext rfl rfl) ?_; refine RU.rd (V.ext rfl rfl) ?_
  refine RU.lo (L.al hC1 z93 fun b1 w1 hb1 le1 hC1 gr1 hz1 hB1 => ?_); refine RU.lo0 (L.stN hC1 sz93 rfl rfl rfl rfl hB1 rfl le1 fun w2 hC2 ch2 hz2 hB1 => ?_); refine RU.rd (V.as rfl) ?_; refine RU.nil ?_; refine RX.seq ?_
  refine RX.seq ?_; refine RX.region ?_; refine RU.rd (V.mv rfl) ?_; refine RU.rd (V.notD rfl) ?_; refine RU.nil ?_; refine RX.condD rfl (fun h2 => ?_) fun h2 => ?_
  · refine RX.seq ?_; refine RX.region ?_; refine RU.rd (V.as rfl) ?_; refine RU.nil ?_; refine RX.rt Tryz.func108 (by rfl) (ResOk.tmp rfl (ResOk.nil)) ?_
    exact ⟨by simp [tup, Led.tk, *], .of_grow (by assumption), by unfold Led.tks; rw [if_neg (by assumption)]; exact h.gr (by assumption)⟩
  · have hf : Led.is a := Decidable.byContradiction (by assumption)
    have e1 := Led.at_of (D := D) hf.1 (by have := hf.2; omega) hl
    have hf1 := hf.1
    have hf2 := hf.2
    have ne1 := h.ne1
    have hG := hC2
    rw [e1] at h1
    have hk : D.tk a n = max (min n D.acc[a.toNat].2) 0 := by rw [Led.tk, if_pos hf, e1]
    rw [e1] at hB1
    replace hC2 : Ch (· = g.ab) w w2 := .of_grow hC2
    refine RX.skip ?_; refine RX.seq ?_; refine RX.region ?_; refine RU.rd (V.mv rfl) ?_; refine RU.rd (V.fld0 f93_1 rfl) ?_; refine RU.rd (V.ld s3 rfl (cur hB1) rfl) ?_; refine RU.rd (V.min rfl rfl) ?_
    refine RU.rd (V.max rfl rfl) ?_; refine RU.rd (V.as rfl) ?_; refine RU.nil ?_; refine RX.seq ?_; refine RX.region ?_; refine RU.rd (V.mv rfl) ?_; refine RU.rd (V.nck rfl) ?_; refine RU.rd (V.fld0 f106_0 rfl) ?_
    refine RU.rd (V.ld s104 rfl (cur (hb.gr hG)) rfl) ?_; refine RU.rd (V.mv rfl) ?_; refine RU.rd (V.idx e104 rfl rfl (by omega)) ?_; refine RU.rd (V.fld f93_1 rfl) ?_
    refine RU.rd (V.ld s3 rfl (cur (ha.gr hG)) (at1 _ (by omega))) ?_; refine RU.rd (V.mv rfl) ?_; refine RU.rd (V.sub rfl rfl (by omega)) ?_; refine RU.rd (V.idx e104 rfl rfl (by omega)) ?_; refine RU.rd (V.fld f93_1 rfl) ?_
    refine RU.lo0 (L.st hC2 sz3 rfl rfl rfl rfl (ha.gr hG) (by omega) (.inr rfl) fun w3 hC3 ch3 hz3 hB3 => ?_); refine RU.nil ?_; refine RX.seq ?_; refine RX.region ?_; refine RU.rd (V.mv rfl) ?_; refine RU.rd (V.as rfl) ?_
    refine RU.nil ?_; refine RX.rt Tryz.func108 (by rfl) (ResOk.tmp rfl (ResOk.nil)) ?_
    refine ⟨by rw [hk]; rfl, hC3, h.upd hC3 (by rw [Led.tks_len]; exact hl) (Led.tks_lk a n) ?_⟩
    have hB4 := accC_set1 D.acc g.sp a.toNat (by omega) (D.acc[a.toNat].2 - max (min n D.acc[a.toNat].2) 0) ▸ hB3
    simp only [Led.tks, if_pos hf, Led.put, hk, e1]
    exact hB4
end Go.Proofs.YtmcfbinkofoagaaGreat
