/- What is held is given back, or goes to the treasury. -/
import Derived.Test.YtmcfbinkofoagaaGreatLF
namespace Go.Proofs.YtmcfbinkofoagaaGreat
open Go Go.RowKit Sx Go.Proofs

/-- Something more is free. -/
def Led.inc (D : Led) (a k : Int) : Led := if 0 < k then D.put a ((D.at a).1 + k, (D.at a).2) else D
def Led.rel (D : Led) (a n : Int) : Led := (D.tks a n).inc a (D.tk a n)
def Led.sla (D : Led) (a n : Int) : Led := (D.tks a n).inc 0 (D.tk a n)
theorem Led.tk_is {D : Led} {a n : Int} (h : 0 < D.tk a n) : Led.is a := by
  unfold Led.tk at h; split at h
  · assumption
  · omega
theorem Led.tk_le {D : Led} (ho : D.Ok) (hl : D.acc.length = 10) (a n : Int) : D.tk a n ≤ 1073741824 := by
  have := ho.at hl a
  unfold Led.tk; split <;> omega

theorem c90 {w : World} {g : LG} {D : Led} {a n : Int} (h : LedAt w g D) (ho : D.Ok) : Calls Tryz.prog 90 #[.pointer (some ⟨g.lb, 0, none⟩), .int .i64 a, .int .i64 n] w
    (Ret fun v w' => v = .int .i64 (D.tk a n) ∧ Ch (· = g.ab) w w' ∧ LedAt w' g (D.sla a n)) := by
  refine calls_of_rx (args := [_, _, _]) (e := [(0, _), (1, _), (2, _)]) (n := 25) Tryz.func90 rfl rfl rfl (by kernel_rfl) rfl ?_
  have hC := Ch.refl Nil w
  refine RX.seq ?_; refine RX.region ?_; refine RU.rd (V.as rfl) ?_; refine RU.nil ?_; refine RX.seq ?_; refine RX.region ?_; refine RU.rd (V.mv rfl) ?_; refine RU.rd (V.mv rfl) ?_; refine RU.rd (V.mv rfl) ?_
  refine RU.lo (L.call fn108 rfl (c108 h ho) ?_)
  rintro _ w1 ⟨rfl, hC1, hD⟩
  have hb := hD.hb
  have ha := hD.ha
  have hl := hD.hl
  have hoD := (Led.tks_ok ho h.hl a n).1
  have ln1 := accC_len hl g.sp
  have at1 := accC_at0 (D.tks a n).acc g.sp
  have hkl := Led.tk_le ho h.hl a n
  refine RU.rd (V.as rfl) ?_; refine RU.nil ?_; refine RX.seq ?_; refine RX.seq ?_; refine RX.region ?_; refine RU.rd (V.mv rfl) ?_; refine RU.rd (V.gtr rfl rfl) ?_; refine RU.nil ?_
  refine RX.condD rfl (fun h1 => ?_) fun h1 => ?_
  · have h1 := hoD.at hl 0
    have e1 := Led.at_of (D := D.tks a n) (a := 0) (by decide) (by simp [hl]) hl
    rw [e1] at h1
    have ne1 := h.ne1
    have hlt : (0 : Int).toNat < (D.tks a n).acc.length := by simp [hl]
    have at2 : ∀ i, (i = 0 ∧ 0 < (D.tks a n).acc.length) → (accC (D.tks a n).acc ++ g.sp)[i]? = some (.int .i64 (D.tks a n).acc[(0 : Int).toNat].1) := by
      rintro i ⟨rfl, h0⟩; exact at1 0 h0
    refine RX.region ?_; refine RU.rd (V.mv rfl) ?_; refine RU.rd (V.nck rfl) ?_; refine RU.rd (V.fld0 f106_0 rfl) ?_; refine RU.rd (V.ld s104 rfl (cur hb) rfl) ?_; refine RU.rd (V.idx e104 rfl rfl (by omega)) ?_
    refine RU.rd (V.fld0 f93_0 rfl) ?_; refine RU.rd (V.ld s3 rfl (cur ha) (at1 _ (by omega))) ?_; refine RU.rd (V.mv rfl) ?_; refine RU.rd (V.add rfl rfl (by omega)) ?_; refine RU.rd (V.idx e104 rfl rfl (by omega)) ?_
    refine RU.rd (V.fld0 f93_0 rfl) ?_; refine RU.lo0 (L.st hC1 sz3 rfl rfl rfl rfl ha (by omega) (.inr rfl) fun w2 hC2 ch2 hz2 hB2 => ?_); have hb := hb.ch ch2 (by omega); refine RU.nil ?_; refine RX.seq ?_
    refine RX.region ?_; refine RU.rd (V.mv rfl) ?_; refine RU.rd (V.as rfl) ?_; refine RU.nil ?_; refine RX.rt Tryz.func90 (by rfl) (ResOk.tmp rfl (ResOk.nil)) ?_
    refine ⟨rfl, hC2, ?_⟩
    have hB4 := accC_set0 (D.tks a n).acc g.sp (0 : Int).toNat (by simp [hl]) ((D.tks a n).acc[(0 : Int).toNat].1 + D.tk a n) ▸ hB2
    have hr : D.sla a n = { D.tks a n with acc := (D.tks a n).acc.set (0 : Int).toNat ((D.tks a n).acc[(0 : Int).toNat].1 + D.tk a n, (D.tks a n).acc[(0 : Int).toNat].2) } := by
      simp only [Led.sla, Led.inc, if_pos ‹0 < D.tk a n›, Led.put, e1]
    rw [hr]
    exact hD.acc' ch2 (by simpa using hl) hB4
  · refine RX.skip ?_; refine RX.seq ?_; refine RX.region ?_; refine RU.rd (V.mv rfl) ?_; refine RU.rd (V.as rfl) ?_; refine RU.nil ?_; refine RX.rt Tryz.func90 (by rfl) (ResOk.tmp rfl (ResOk.nil)) ?_
    exact ⟨rfl, by assumption, by unfold Led.sla Led.inc; rw [if_neg (by assumption)]; exact hD⟩
end Go.Proofs.YtmcfbinkofoagaaGreat
