/- Transfers, and what is held. -/
import Derived.Test.YtmcfbinkofoagaaGreatLC
namespace Go.Proofs.YtmcfbinkofoagaaGreat
open Go Go.RowKit Sx Go.Proofs

/-- An account has so much. -/
def Led.put (D : Led) (a : Int) (x : Int × Int) : Led := { D with acc := D.acc.set a.toNat x }
theorem Led.put_len (D : Led) (a : Int) (x : Int × Int) : (D.put a x).acc.length = D.acc.length := by simp [Led.put]
theorem LedAt.acc' {w w1 : World} {g : LG} {D : Led} {l : List (Int × Int)} (h : LedAt w g D) (hc : Ch (· = g.ab) w w1) (hl : l.length = 10) (hb : Blk w1 g.ab (accC l ++ g.sp) 93) : LedAt w1 g { D with acc := l } :=
  ⟨h.hb.ch hc h.ne1, hb, hl, h.hg.ch hc (by rintro b (rfl | hb) he; exact h.ne3 he.symm; exact h.ne5 _ (he ▸ hb)), h.hk, h.ne1, h.ne2, h.ne3, h.ne4, h.ne5⟩
theorem LedAt.put {w w1 : World} {g : LG} {D : Led} {a : Int} {x : Int × Int} (h : LedAt w g D) (hc : Ch (· = g.ab) w w1) (hb : Blk w1 g.ab (accC (D.acc.set a.toNat x) ++ g.sp) 93) : LedAt w1 g (D.put a x) :=
  ⟨h.hb.ch hc h.ne1, hb, by simp [Led.put, h.hl], h.hg.ch hc (by rintro b (rfl | hb) he; exact h.ne3 he.symm; exact h.ne5 _ (he ▸ hb)), h.hk, h.ne1, h.ne2, h.ne3, h.ne4, h.ne5⟩
theorem accC_len {l : List (Int × Int)} (h : l.length = 10) (sp : List Value) : (accC l ++ sp).length = 20 + sp.length := by
  rw [List.length_append, accC, rws_length accE_length, h]
theorem Led.at_put {D : Led} (hl : D.acc.length = 10) {a b : Int} (ha : Led.is a) (x : Int × Int) : (D.put a x).at b = if b = a then x else D.at b := by
  unfold Led.at
  by_cases hb : Led.is b
  · rw [if_pos hb, if_pos hb]
    have h1 := ha.1; have h2 := ha.2; have h3 := hb.1; have h4 := hb.2
    by_cases h : b = a
    · subst h; rw [if_pos rfl]; simp [Led.put, List.getD, show b.toNat < D.acc.length by omega]
    · rw [if_neg h]; simp [Led.put, List.getD, List.getElem?_set_ne (show a.toNat ≠ b.toNat by omega)]
  · rw [if_neg hb, if_neg hb, if_neg]
    rintro rfl; exact hb ha

/-- Something goes from one account to another one: why not, and the ledger behind it. -/
def Led.trE (D : Led) (f t n : Int) : Int :=
  if ¬ Led.is t then 1 else if D.may f n = 7 ∧ f = t then 0 else D.may f n
def Led.tr (D : Led) (f t n : Int) : Led :=
  if Led.is t ∧ D.may f n = 0 then
    let D1 := D.put f ((D.at f).1 - n, (D.at f).2)
    D1.put t ((D1.at t).1 + n, (D1.at t).2)
  else D
theorem Led.may_ok {D : Led} {a n : Int} (h : D.may a n = 0) : Led.is a ∧ 0 ≤ n ∧ n ≤ 1073741824 ∧ n ≤ (D.at a).1 := by
  unfold Led.may at h
  split at h
  · omega
  · rename_i h1
    have h2 : Led.is a := Decidable.byContradiction fun h => h1 (.inl h)
    split at h
    · omega
    · exact ⟨h2, by omega⟩

theorem c86 {w : World} {g : LG} {D : Led} {f t n : Int} (h : LedAt w g D) (ho : D.Ok) : Calls Tryz.prog 86 #[.pointer (some ⟨g.lb, 0, none⟩), .int .i64 f, .int .i64 t, .int .i64 n] w
    (Ret fun v w' => v = .int .i64 (D.trE f t n) ∧ Ch (· = g.ab) w w' ∧ LedAt w' g (D.tr f t n)) := by
  have hl := h.hl
  have hb := h.hb
  have ha := h.ha
  have ln1 := accC_len hl g.sp
  have at1 := accC_at0 D.acc g.sp
  refine calls_of_rx (args := [_, _, _, _]) (e := [(0, _), (1, _), (2, _), (3, _)]) (n := 58) Tryz.func86 rfl rfl rfl (by kernel_rfl) rfl ?_
  have hC := Ch.refl Nil w
  refine RX.seq ?_; refine RX.region ?_; refine RU.rd (V.as rfl) ?_; refine RU.nil ?_; refine RX.seq ?_; refine RX.region ?_; refine RU.rd (V.mv rfl) ?_; refine RU.rd (V.mv rfl) ?_; refine RU.rd (V.mv rfl) ?_
  refine RU.lo (L.call fn77 rfl (c77 h ?_) ?_); assumption; rintro _ w1 ⟨rfl, gr1⟩; have hC1 := hC.trans (Ch.of_grow gr1); refine RU.rd (V.as rfl) ?_; refine RU.nil ?_; refine RX.seq ?_; refine RX.seq ?_
  refine RX.region ?_; refine RU.rd (V.mv rfl) ?_; refine RU.rd (V.mv rfl) ?_; refine RU.lo (L.call fn30 rfl (c30 (h.gr hC1)) ?_); rintro _ w2 ⟨rfl, gr2⟩; have hC2 := hC1.trans (Ch.of_grow gr2); refine RU.rd (V.mv rfl) ?_
  refine RU.rd (V.ext rfl rfl) ?_; refine RU.rd (V.ext rfl rfl) ?_; refine RU.lo (L.al hC2 z93 fun b1 w1 hb1 le1 hC1 gr1 hz1 hB1 => ?_)
  refine RU.lo0 (L.stN hC1 sz93 rfl rfl rfl rfl hB1 rfl le1 fun w3 hC3 ch3 hz3 hB1 => ?_); refine RU.rd (V.as rfl) ?_; refine RU.nil ?_; refine RX.seq ?_; refine RX.region ?_; refine RU.rd (V.mv rfl) ?_
  refine RU.rd (V.notD rfl) ?_; refine RU.nil ?_; refine RX.condD rfl (fun h1 => ?_) fun h1 => ?_
  · refine RX.region ?_; refine RU.rd (V.as rfl) ?_; refine RU.nil ?_; refine RX.seq ?_; refine RX.seq ?_; refine RX.region ?_; refine RU.rd (V.mv rfl) ?_; refine RU.rd (V.eql rfl rfl) ?_; refine RU.rd (V.mv rfl) ?_
    refine RU.splitD (fun _ => by omega) fun h2 => ?_; refine RU.sk rfl rfl rfl ?_; refine RU.sk rfl rfl rfl ?_; refine RU.sk rfl rfl rfl ?_; refine RU.rd (V.pickF rfl rfl) ?_; refine RU.nil ?_; refine RX.condF rfl ?_
    refine RX.skip ?_; refine RX.seq ?_; refine RX.seq ?_; refine RX.region ?_; refine RU.rd (V.mv rfl) ?_; refine RU.rd (V.eql rfl rfl) ?_; refine RU.nil ?_; refine RX.condF rfl ?_; refine RX.skip ?_; refine RX.seq ?_
    refine RX.region ?_; refine RU.rd (V.mv rfl) ?_; refine RU.rd (V.as rfl) ?_; refine RU.nil ?_; refine RX.rt Tryz.func86 (by rfl) (ResOk.tmp rfl (ResOk.nil)) ?_
    exact ⟨by simp [tup, Led.trE, *], .of_grow (by assumption), by unfold Led.tr; rw [if_neg (by simp [*])]; exact h.gr (by assumption)⟩
  · refine RX.skip ?_; refine RX.seq ?_; refine RX.seq ?_; refine RX.region ?_; refine RU.rd (V.mv rfl) ?_; refine RU.rd (V.eql rfl rfl) ?_; refine RU.rd (V.mv rfl) ?_; refine RU.splitD (fun h2 => ?_) fun h2 => ?_
    · refine RU.rdG rfl rfl (V.mv rfl) ?_; refine RU.rdG rfl rfl (V.mv rfl) ?_; refine RU.rdG rfl rfl (V.eql rfl rfl) ?_; refine RU.rd (V.pickT rfl rfl) ?_; refine RU.nil ?_; refine RX.condD rfl (fun h3 => ?_) fun h3 => ?_
      · refine RX.seq ?_; refine RX.region ?_; refine RU.rd (V.as rfl) ?_; refine RU.nil ?_; refine RX.rt Tryz.func86 (by rfl) (ResOk.tmp rfl (ResOk.nil)) ?_
        have hft : f = t := by assumption
        subst hft
        refine ⟨by simp [tup, Led.trE, *], .of_grow (by assumption), ?_⟩
        unfold Led.tr; rw [if_neg (by simp [*])]; exact h.gr (by assumption)
      · refine RX.skip ?_; refine RX.seq ?_; refine RX.seq ?_; refine RX.region ?_; refine RU.rd (V.mv rfl) ?_; refine RU.rd (V.eql rfl rfl) ?_; refine RU.nil ?_; refine RX.condD rfl (fun _ => by omega) fun h4 => ?_
        refine RX.skip ?_; refine RX.seq ?_; refine RX.region ?_; refine RU.rd (V.mv rfl) ?_; refine RU.rd (V.as rfl) ?_; refine RU.nil ?_; refine RX.rt Tryz.func86 (by rfl) (ResOk.tmp rfl (ResOk.nil)) ?_
        exact ⟨by simp [tup, Led.trE, *], .of_grow (by assumption), by unfold Led.tr; rw [if_neg (by simp [*])]; exact h.gr (by assumption)⟩
    · refine RU.sk rfl rfl rfl ?_; refine RU.sk rfl rfl rfl ?_; refine RU.sk rfl rfl rfl ?_; refine RU.rd (V.pickF rfl rfl) ?_; refine RU.nil ?_; refine RX.condF rfl ?_; refine RX.skip ?_; refine RX.seq ?_; refine RX.seq ?_
      refine RX.region ?_; refine RU.rd (V.mv rfl) ?_; refine RU.rd (V.eql rfl rfl) ?_; refine RU.nil ?_; refine RX.condD rfl (fun h3 => ?_) fun h3 => ?_
      · rename_i _ hm0
        obtain ⟨hf, hn0, hn1, hn2⟩ := Led.may_ok ‹D.may f n = 0›
        have ht : Led.is t := Decidable.byContradiction (by assumption)
        have h1 := ho.at hl f
        have e1 := Led.at_of (D := D) hf.1 (by have := hf.2; omega) hl
        have hf1 := hf.1
        have hf2 := hf.2
        have ht1 := ht.1
        have ht2 := ht.2
        rw [e1] at h1 hn2
        have hG := hC3
        have ne1 := h.ne1
        replace hC3 : Ch (· = g.ab) w w3 := .of_grow hC3
        refine RX.seq ?_; refine RX.region ?_; refine RU.rd (V.mv rfl) ?_; refine RU.rd (V.nck rfl) ?_; refine RU.rd (V.fld0 f106_0 rfl) ?_; refine RU.rd (V.ld s104 rfl (cur (hb.gr hG)) rfl) ?_; refine RU.rd (V.mv rfl) ?_
        refine RU.rd (V.idx e104 rfl rfl (by omega)) ?_; refine RU.rd (V.fld f93_0 rfl) ?_; refine RU.rd (V.ld s3 rfl (cur (ha.gr hG)) (at1 _ (by omega))) ?_; refine RU.rd (V.mv rfl) ?_; refine RU.rd (V.sub rfl rfl (by omega)) ?_
        refine RU.rd (V.idx e104 rfl rfl (by omega)) ?_; refine RU.rd (V.fld f93_0 rfl) ?_; refine RU.lo0 (L.st hC3 sz3 rfl rfl rfl rfl (ha.gr hG) (by omega) (.inr rfl) fun w4 hC4 ch4 hz4 hB4 => ?_); refine RU.nil ?_
        refine RX.region ?_; refine RU.rd (V.mv rfl) ?_; refine RU.rd (V.nck rfl) ?_; refine RU.rd (V.fld0 f106_0 rfl) ?_
        refine RU.rd (V.ld s104 rfl (cur (hb.ch hC4 (by first | assumption | omega | (dsimp only; omega) | (simp; omega)))) rfl) ?_; refine RU.rd (V.mv rfl) ?_; refine RU.rd (V.idx e104 rfl rfl (by omega)) ?_
        refine RU.rd (V.fld f93_0 rfl) ?_
        have hlf : f.toNat < D.acc.length := by omega
        replace hB4 : Blk w4 g.ab (accC (D.acc.set f.toNat (D.acc[f.toNat].1 - n, D.acc[f.toNat].2)) ++ g.sp) 93 := accC_set0 D.acc g.sp f.toNat hlf (D.acc[f.toNat].1 - n) ▸ hB4
        generalize hl2 : D.acc.set f.toNat (D.acc[f.toNat].1 - n, D.acc[f.toNat].2) = l2 at hB4
        have hll : l2.length = 10 := by rw [← hl2]; simpa using hl
        have at2 := accC_at0 l2 g.sp
        have ln2 := accC_len hll g.sp
        have hlt : t.toNat < l2.length := by omega
        have hb2 : 0 ≤ l2[t.toNat].1 ∧ l2[t.toNat].1 ≤ 1073741824 := by
          subst hl2
          have h3 := ho.at hl t
          rw [Led.at_of (D := D) ht.1 (by omega) hl] at h3
          rw [List.getElem_set]; split
          · dsimp only; omega
          · omega
        refine RU.rd (V.ld s3 rfl (cur hB4) (at2 _ (by omega))) ?_; refine RU.rd (V.mv rfl) ?_; refine RU.rd (V.add rfl rfl (by omega)) ?_; refine RU.rd (V.idx e104 rfl rfl (by omega)) ?_; refine RU.rd (V.fld f93_0 rfl) ?_
        refine RU.lo0 (L.st hC4 sz3 rfl rfl rfl rfl hB4 (by omega) (.inr rfl) fun w5 hC5 ch5 hz5 hB5 => ?_); refine RU.nil ?_; refine RX.seq ?_; refine RX.region ?_; refine RU.rd (V.mv rfl) ?_; refine RU.rd (V.as rfl) ?_
        refine RU.nil ?_; refine RX.rt Tryz.func86 (by rfl) (ResOk.tmp rfl (ResOk.nil)) ?_
        have hB6 : Blk w5 g.ab (accC (l2.set t.toNat (l2[t.toNat].1 + n, l2[t.toNat].2)) ++ g.sp) 93 := accC_set0 l2 g.sp t.toNat hlt (l2[t.toNat].1 + n) ▸ hB5
        have heq : D.tr f t n = { D with acc := l2.set t.toNat (l2[t.toNat].1 + n, l2[t.toNat].2) } := by
          have hp : D.put f ((D.at f).1 - n, (D.at f).2) = { D with acc := l2 } := by rw [e1, Led.put, hl2]
          have ha : Led.at { D with acc := l2 } t = l2[t.toNat] := Led.at_of (D := { D with acc := l2 }) ht.1 hlt hll
          unfold Led.tr
          rw [if_pos ⟨ht, h3⟩]
          simp only [hp, ha]
          rfl
        rw [heq]
        exact ⟨by simp [tup, Led.trE, *], hC5, h.acc' hC5 (by simpa using hll) hB6⟩
      · refine RX.skip ?_; refine RX.seq ?_; refine RX.region ?_; refine RU.rd (V.mv rfl) ?_; refine RU.rd (V.as rfl) ?_; refine RU.nil ?_; refine RX.rt Tryz.func86 (by rfl) (ResOk.tmp rfl (ResOk.nil)) ?_
        exact ⟨by simp [tup, Led.trE, *], .of_grow (by assumption), by unfold Led.tr; rw [if_neg (by simp [*])]; exact h.gr (by assumption)⟩
end Go.Proofs.YtmcfbinkofoagaaGreat
