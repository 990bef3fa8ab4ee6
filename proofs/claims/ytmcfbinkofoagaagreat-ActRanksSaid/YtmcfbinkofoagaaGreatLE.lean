/- What is held: it is laid down, given back, taken. -/
import Derived.Test.YtmcfbinkofoagaaGreatLD
namespace Go.Proofs.YtmcfbinkofoagaaGreat
open Go Go.RowKit Sx Go.Proofs

theorem LedAt.upd {w w1 : World} {g : LG} {D D' : Led} (h : LedAt w g D) (hc : Ch (· = g.ab) w w1) (hl : D'.acc.length = 10) (hk : D'.locks = D.locks) (hb : Blk w1 g.ab (accC D'.acc ++ g.sp) 93) : LedAt w1 g D' := by
  obtain ⟨a, k⟩ := D'
  cases hk
  exact h.acc' hc hl hb

def Led.res (D : Led) (a n : Int) : Led := if D.may a n = 0 then D.put a ((D.at a).1 - n, (D.at a).2 + n) else D
theorem c52 {w : World} {g : LG} {D : Led} {a n : Int} (h : LedAt w g D) (ho : D.Ok) : Calls Tryz.prog 52 #[.pointer (some ⟨g.lb, 0, none⟩), .int .i64 a, .int .i64 n] w
    (Ret fun v w' => v = .int .i64 (D.may a n) ∧ Ch (· = g.ab) w w' ∧ LedAt w' g (D.res a n)) := by
  have hl := h.hl
  have hb := h.hb
  have ha := h.ha
  have ln1 := accC_len hl g.sp
  have at1 := accC_at0 D.acc g.sp
  refine calls_of_rx (args := [_, _, _]) (e := [(0, _), (1, _), (2, _)]) (n := 39) Tryz.func52 rfl rfl rfl (by kernel_rfl) rfl ?_
  have hC := Ch.refl Nil w
  refine RX.seq ?_; refine RX.region ?_; refine RU.rd (V.as rfl) ?_; refine RU.nil ?_; refine RX.seq ?_; refine RX.region ?_; refine RU.rd (V.mv rfl) ?_; refine RU.rd (V.mv rfl) ?_; refine RU.rd (V.mv rfl) ?_
  refine RU.lo (L.call fn77 rfl (c77 h ?_) ?_); assumption; rintro _ w1 ⟨rfl, gr1⟩; have hC1 := hC.trans (Ch.of_grow gr1); refine RU.rd (V.as rfl) ?_; refine RU.nil ?_; refine RX.seq ?_; refine RX.seq ?_
  refine RX.region ?_; refine RU.rd (V.mv rfl) ?_; refine RU.rd (V.eql rfl rfl) ?_; refine RU.nil ?_; refine RX.condD rfl (fun h1 => ?_) fun h1 => ?_
  · obtain ⟨hf, hn0, hn1, hn2⟩ := Led.may_ok ‹D.may a n = 0›
    have h1 := ho.at hl a
    have e1 := Led.at_of (D := D) hf.1 (by have := hf.2; omega) hl
    have hf1 := hf.1
    have hf2 := hf.2
    rw [e1] at h1 hn2
    have ne1 := h.ne1
    have hG := hC1
    replace hC1 : Ch (· = g.ab) w w1 := .of_grow hC1
    refine RX.seq ?_; refine RX.region ?_; refine RU.rd (V.mv rfl) ?_; refine RU.rd (V.nck rfl) ?_; refine RU.rd (V.fld0 f106_0 rfl) ?_; refine RU.rd (V.ld s104 rfl (cur (hb.gr hG)) rfl) ?_; refine RU.rd (V.mv rfl) ?_
    refine RU.rd (V.idx e104 rfl rfl (by omega)) ?_; refine RU.rd (V.fld f93_0 rfl) ?_; refine RU.rd (V.ld s3 rfl (cur (ha.gr hG)) (at1 _ (by omega))) ?_; refine RU.rd (V.mv rfl) ?_; refine RU.rd (V.sub rfl rfl (by omega)) ?_
    refine RU.rd (V.idx e104 rfl rfl (by omega)) ?_; refine RU.rd (V.fld f93_0 rfl) ?_; refine RU.lo0 (L.st hC1 sz3 rfl rfl rfl rfl (ha.gr hG) (by omega) (.inr rfl) fun w2 hC2 ch2 hz2 hB2 => ?_); refine RU.nil ?_
    refine RX.region ?_; refine RU.rd (V.mv rfl) ?_; refine RU.rd (V.nck rfl) ?_; refine RU.rd (V.fld0 f106_0 rfl) ?_
    refine RU.rd (V.ld s104 rfl (cur (hb.ch hC2 (by first | assumption | omega | (dsimp only; omega) | (simp; omega)))) rfl) ?_; refine RU.rd (V.mv rfl) ?_; refine RU.rd (V.idx e104 rfl rfl (by omega)) ?_
    refine RU.rd (V.fld f93_1 rfl) ?_
    have hlf : a.toNat < D.acc.length := by omega
    replace hB2 : Blk w2 g.ab (accC (D.acc.set a.toNat (D.acc[a.toNat].1 - n, D.acc[a.toNat].2)) ++ g.sp) 93 := accC_set0 D.acc g.sp a.toNat hlf (D.acc[a.toNat].1 - n) ▸ hB2
    have hll : (D.acc.set a.toNat (D.acc[a.toNat].1 - n, D.acc[a.toNat].2)).length = 10 := by simpa using hl
    have at2 := accC_at1 (D.acc.set a.toNat (D.acc[a.toNat].1 - n, D.acc[a.toNat].2)) g.sp
    have ln2 := accC_len hll g.sp
    have hlt : a.toNat < (D.acc.set a.toNat (D.acc[a.toNat].1 - n, D.acc[a.toNat].2)).length := by omega
    have hg2 : (D.acc.set a.toNat (D.acc[a.toNat].1 - n, D.acc[a.toNat].2))[a.toNat] = (D.acc[a.toNat].1 - n, D.acc[a.toNat].2) := by simp
    have hb2 : 0 ≤ (D.acc.set a.toNat (D.acc[a.toNat].1 - n, D.acc[a.toNat].2))[a.toNat].2 ∧ (D.acc.set a.toNat (D.acc[a.toNat].1 - n, D.acc[a.toNat].2))[a.toNat].2 ≤ 1073741824 := by rw [hg2]; dsimp only; omega
    refine RU.rd (V.ld s3 rfl (cur hB2) (at2 _ (by omega))) ?_; refine RU.rd (V.mv rfl) ?_; refine RU.rd (V.add rfl rfl (by omega)) ?_; refine RU.rd (V.idx e104 rfl rfl (by omega)) ?_; refine RU.rd (V.fld f93_1 rfl) ?_
    refine RU.lo0 (L.st hC2 sz3 rfl rfl rfl rfl hB2 (by omega) (.inr rfl) fun w3 hC3 ch3 hz3 hB3 => ?_); refine RU.nil ?_; refine RX.seq ?_; refine RX.region ?_; refine RU.rd (V.mv rfl) ?_; refine RU.rd (V.as rfl) ?_
    refine RU.nil ?_; refine RX.rt Tryz.func52 (by rfl) (ResOk.tmp rfl (ResOk.nil)) ?_
    have hB4 := accC_set1 _ g.sp a.toNat hlt ((D.acc.set a.toNat (D.acc[a.toNat].1 - n, D.acc[a.toNat].2))[a.toNat].2 + n) ▸ hB3
    simp only [hg2, List.set_set] at hB4
    refine ⟨rfl, hC3, h.upd hC3 ?_ ?_ ?_⟩
    · simp [Led.res, *, Led.put]
    · unfold Led.res; split <;> rfl
    · simp only [Led.res, *, Led.put, if_true]
  · refine RX.skip ?_; refine RX.seq ?_; refine RX.region ?_; refine RU.rd (V.mv rfl) ?_; refine RU.rd (V.as rfl) ?_; refine RU.nil ?_; refine RX.rt Tryz.func52 (by rfl) (ResOk.tmp rfl (ResOk.nil)) ?_
    exact ⟨rfl, .of_grow (by assumption), by unfold Led.res; rw [if_neg (by assumption)]; exact h.gr (by assumption)⟩
end Go.Proofs.YtmcfbinkofoagaaGreat
