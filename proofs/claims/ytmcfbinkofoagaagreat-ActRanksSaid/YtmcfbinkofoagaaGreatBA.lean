/- What a law begins with: accounts, tracks, and no referenda. -/
import Derived.Test.YtmcfbinkofoagaaGreatXA
namespace Go.Proofs.YtmcfbinkofoagaaGreat
open Go Go.RowKit Sx Go.Proofs

/-- What the accounts begin with. -/
def startOf (fr : List Int) : List Int := (List.range 10).map fun i => if i < fr.length then 100 + fr.getD i 0 % 1024 else 100
theorem startOf_len (fr : List Int) : (startOf fr).length = 10 := by simp [startOf]
theorem startOf_at (fr : List Int) {i : Nat} (h : i < (startOf fr).length) : (startOf fr)[i] = if i < fr.length then 100 + fr.getD i 0 % 1024 else 100 := by simp [startOf]
theorem startOf_mem {fr : List Int} {x : Int} (h : x ∈ startOf fr) : 0 ≤ x ∧ x ≤ 1123 := by
  obtain ⟨i, hi, rfl⟩ := List.mem_map.1 h
  split <;> omega
theorem total_le : ∀ (l : List (Int × Int)), (∀ x ∈ l, x.1 + x.2 ≤ 1123) → totalOf l ≤ 1123 * l.length
  | [], _ => by simp [totalOf]
  | x :: r, h => by
    have h1 := h x (by simp)
    have h2 := total_le r fun y hy => h y (by simp [hy])
    simp only [totalOf, List.length_cons]; omega
theorem startOf_total (fr : List Int) : totalOf (newAcc (startOf fr)) ≤ 1073741824 := by
  have := total_le (newAcc (startOf fr)) fun x hx => by
    obtain ⟨y, hy, rfl⟩ := List.mem_map.1 hx
    have := startOf_mem hy
    simp; omega
  have h2 : (newAcc (startOf fr)).length = 10 := by simp [newAcc, startOf_len]
  omega
def startLed (fr : List Int) : Led := ⟨newAcc (startOf fr), []⟩
theorem startLed_ok (fr : List Int) : (startLed fr).Ok := by
  refine ⟨fun x hx => ?_, startOf_total fr⟩
  obtain ⟨y, hy, rfl⟩ := List.mem_map.1 hx
  have := startOf_mem hy
  simp; omega
/-- Where the law's things lie. -/
structure PG where
  pb : Nat
  g : LG
  vb : Nat
  rb : Nat
  tb : Nat
  c : Nat
  sp : List Value
  gb : Nat
  xb : Nat
  yb : Nat
  zb : Nat
structure P0 (w : World) (q : PG) (D : Led) : Prop where
  hp : Blk w q.pb [.pointer (some ⟨q.g.lb, 0, none⟩), .pointer (some ⟨q.vb, 0, none⟩), .pointer (some ⟨q.rb, 0, none⟩), .pointer (some ⟨q.xb, 0, none⟩), .pointer (some ⟨q.yb, 0, none⟩), .pointer (some ⟨q.zb, 0, none⟩)] 38
  hl : LedAt w q.g D
  hr : Blk w q.rb [.slice (some ⟨q.tb, 0, none⟩) 3 q.c, .pointer (some ⟨q.gb, 0, none⟩)] 90
  ht : Blk w q.tb (trsC theTracks ++ q.sp) 80
  n1 : q.pb ≠ q.g.ab
  n2 : q.rb ≠ q.g.ab
  n3 : q.tb ≠ q.g.ab
def PG.foot (q : PG) (b : Nat) : Prop := b = q.pb ∨ b = q.rb ∨ b = q.tb ∨ q.g.foot b
theorem P0.ch {w w1 : World} {q : PG} {D : Led} {S : Nat → Prop} (h : P0 w q D) (hc : Ch S w w1) (hs : ∀ b, q.foot b → ¬ S b) : P0 w1 q D :=
  ⟨h.hp.ch hc (hs _ (.inl rfl)), h.hl.ch hc (fun b hb => hs b (.inr (.inr (.inr hb)))), h.hr.ch hc (hs _ (.inr (.inl rfl))), h.ht.ch hc (hs _ (.inr (.inr (.inl rfl)))), h.n1, h.n2, h.n3⟩
theorem P0.lt {w : World} {q : PG} {D : Led} (h : P0 w q D) : ∀ b, q.foot b → b < w.heap.size := by
  rintro b (rfl | rfl | rfl | hb)
  · exact h.hp.lt
  · exact h.hr.lt
  · exact h.ht.lt
  · exact h.hl.lt b hb
theorem P0.gr {w w1 : World} {q : PG} {D : Led} (h : P0 w q D) (hc : Grow w w1) : P0 w1 q D := ⟨h.hp.gr hc, h.hl.gr hc, h.hr.gr hc, h.ht.gr hc, h.n1, h.n2, h.n3⟩
theorem P0.upd {w w1 : World} {q : PG} {D D' : Led} (h : P0 w q D) (hc : Ch (· = q.g.ab) w w1) (hl : LedAt w1 q.g D') : P0 w1 q D' := ⟨h.hp.ch hc h.n1, hl, h.hr.ch hc h.n2, h.ht.ch hc h.n3, h.n1, h.n2, h.n3⟩

theorem Own.opn {w : World} {w0 sz : Nat} {T : TypeId} {v : Value} {cs : List Value} (h : Own w0 w sz T v cs) (h0 : 0 < cs.length) : ∃ b n c sp, v = .slice (Option.some ⟨b, 0, Option.none⟩) n c ∧ w0 ≤ b ∧ cs.length = n * sz ∧ Blk w b (cs ++ sp) T ∧
    ∀ cs' w1, cs'.length = cs.length → Blk w1 b (cs' ++ sp) T → Own w0 w1 sz T (.slice (Option.some ⟨b, 0, Option.none⟩) n c) cs' := by
  cases h with
  | nil => simp at h0
  | some h1 hb hl hc ht hn =>
    rename_i b n c all
    have he : all = cs ++ all.drop (n * sz) := by rw [← ht, List.take_append_drop]
    refine ⟨b, n, c, all.drop (n * sz), rfl, h1, hc, by rw [← he]; exact hb, fun cs' w1 hl' hb' => .some h1 hb' ?_ (by omega) ?_ hn⟩
    · rw [List.length_append, hl', ← List.length_append, ← he]; exact hl
    · rw [List.take_left' (by omega)]
/-- A slice of numbers that can be read. -/
def RdI (w : World) (v : Value) (f : List Int) : Prop := ∃ p off c, v = .slice p f.length c ∧ ∀ i, i < f.length → ∃ b cs, p = Option.some ⟨b, off, Option.none⟩ ∧ BlkR w b cs ∧ cs[off + i * 1]? = some (.int .i64 (f.getD i 0))
theorem RdI.nil {w : World} {n : Nat} : RdI w (.slice none 0 n) [] := ⟨none, 0, n, rfl, fun i hi => by simp at hi⟩
theorem RdI.of {w : World} {f : List Int} {b off c : Nat} {cs : List Value} (hb : BlkR w b cs) (h : ∀ i, i < f.length → cs[off + i * 1]? = some (.int .i64 (f.getD i 0))) : RdI w (.slice (some ⟨b, off, none⟩) f.length c) f :=
  ⟨_, off, c, rfl, fun i hi => ⟨b, cs, rfl, hb, h i hi⟩⟩
theorem ints_len (f : List Int) : (ints f).length = f.length := by simp [ints]

theorem c9 {w : World} {v : Value} {fr : List Int} (hr : RdI w v fr) : Calls Tryz.prog 9 #[v, .int .i64 0] w
    (Ret fun v w' => ∃ q : PG, v = .pointer (some ⟨q.pb, 0, none⟩) ∧ Grow w w' ∧ w.heap.size ≤ q.g.ab ∧ (∀ b, q.foot b → w.heap.size ≤ b) ∧ P0 w' q (startLed fr)) := by
  obtain ⟨p, off, c, rfl, ax0⟩ := hr
  have hsl := startOf_len fr
  refine calls_of_rx (args := [_, _]) (e := [(0, _), (1, _)]) (n := 132) Tryz.func9 rfl rfl rfl (by kernel_rfl) rfl ?_
  have hC := Ch.refl Nil w
  have uq := True.intro
  refine RX.seq ?_; refine RX.region ?_; refine RU.rd (V.as rfl) ?_; refine RU.nil ?_; refine RX.seq ?_; refine RX.region ?_; refine RU.rd (V.as rfl) ?_; refine RU.nil ?_; refine RX.seq ?_; refine RX.seq ?_
  refine RX.region ?_; refine RU.rd (V.as rfl) ?_; refine RU.nil ?_; refine RX.block ?_
  refine RX.keep [(0, _), (1, _), (5, _), (6, _)] ⟨rfl, rfl, rfl, rfl, trivial⟩ ?_
  refine RX.loop (fun d e w' => ∃ i : Nat, d = 10 - i ∧ i ≤ 10 ∧ ∃ u, e = [(0, .slice p fr.length c), (1, .int .i64 0), (5, u), (6, .int .i64 i)] ∧ Grow w w' ∧ Own w.heap.size w' 1 3 u (ints ((startOf fr).take i))) (10 - 0) ⟨0, rfl, by omega, .slice none 0 0, rfl, hC, .nil⟩ ?_
  rintro d e w' ⟨i, rfl, hi, u, rfl, hC1, hO⟩ ih
  clear hC
  refine RX.seq ?_; refine RX.seq ?_; refine RX.region ?_; refine RU.rd (V.mv rfl) ?_; refine RU.rd (V.lss rfl rfl) ?_; refine RU.nil ?_; refine RX.condD rfl (fun h1 => ?_) fun h1 => ?_
  · have ln0 : (ints ((startOf fr).take i)).length = i := by rw [ints_len, List.length_take]; omega
    have hi' : i < (startOf fr).length := by omega
    have hta : (startOf fr).take (i + 1) = (startOf fr).take i ++ [(startOf fr)[i]] := List.take_succ_eq_append_getElem hi'
    rw [startOf_at fr hi'] at hta
    refine RX.skip ?_; refine RX.seq ?_; refine RX.block ?_; refine RX.seq ?_; refine RX.region ?_; refine RU.rd (V.mv rfl) ?_; refine RU.lo (L.bsl hC1 e49 z3 rfl rfl rfl rfl fun b1 w1 hb1 le1 hC1 gr1 hz1 hB1 => ?_)
    refine RU.lo (L.app hC1 e49 u49 z3 rfl by3 rfl rfl (hO.gr gr1) (show Rd w1 1 (.slice (some ⟨b1, 0, none⟩) 1 1) 1 [.int .i64 100] from .some (n := 1) hB1 (Nat.le_refl _) rfl) rfl rfl (by rw [ln0]; simp; omega) fun u' w3 hC3 ch3 hO3 hin => ?_)
    obtain ⟨b3, n3, c3, sp3, rfl, le3, hn3, hB3, hown⟩ := Own.opn hO3 (by simp)
    have hn3 : n3 = i + 1 := by simp [ln0] at hn3; omega
    subst hn3
    have hB3l := hB3.lt
    refine RU.rd (V.as rfl) ?_; refine RU.nil ?_; refine RX.seq ?_; refine RX.region ?_; refine RU.rd (V.mv rfl) ?_; refine RU.rd (V.mv rfl) ?_; refine RU.rd (V.len u49 rfl) ?_; refine RU.rd (V.lss rfl rfl) ?_
    refine RU.nil ?_; refine RX.condD rfl (fun h2 => ?_) fun h2 => ?_
    · obtain ⟨b0, cs0, rfl, hbv, ha⟩ := ax0 i (by omega)
      have at2 : ∀ j (_ : j = i), cs0[off + j * 1]? = some (.int .i64 (fr.getD j 0)) := by
        rintro j rfl
        exact ha
      have ln1 : (ints ((startOf fr).take i) ++ [Value.int .i64 100] ++ sp3).length = i + 1 + sp3.length := by simp [ln0]; omega
      refine RX.region ?_; refine RU.rd (V.mv rfl) ?_; refine RU.rd (V.mv rfl) ?_; refine RU.rd (V.mv rfl) ?_; refine RU.rd (V.mv rfl) ?_; refine RU.rd (V.idx e49 rfl rfl (by omega)) ?_
      refine RU.rd (V.ldR s3 rfl (cur (hbv.gr hC3)) (at2 _ (by omega))) ?_; refine RU.rd (V.and (m := 10) rfl (by decide) rfl rfl) ?_; refine RU.rd (V.add rfl rfl (by omega)) ?_; refine RU.rd (V.idx e49 rfl rfl (by omega)) ?_
      have e1 : setAt (ints ((startOf fr).take i) ++ [Value.int .i64 100] ++ sp3) (0 + i * 1) [.int .i64 (100 + fr.getD i 0 % 1024)] = ints ((startOf fr).take (i + 1)) ++ sp3 := by
        rw [hta, if_pos (by omega), List.append_assoc, show 0 + i * 1 = ((startOf fr).take i).length + 0 by rw [List.length_take]; omega]
        have := setAt_skip (ints ((startOf fr).take i)) ([Value.int .i64 100] ++ sp3) 0 [.int .i64 (100 + fr.getD i 0 % 1024)]
        rw [ints_len] at this
        rw [this]; simp [setAt, setAt_nil, ints]
      refine RU.lo0 (L.st hC3 sz3 rfl rfl rfl rfl hB3 (by rw [ln1]; omega) (.inl le3) fun w4 hC4 ch4 hz4 hB4 => ?_)
      have hO4 := hown (ints ((startOf fr).take (i + 1))) w4 (by rw [hta]; simp [ints]) (by rw [← e1]; exact hB4)
      refine RU.nil ?_; refine RX.inBlock ?_; refine RX.region ?_; refine RU.rd (V.mv rfl) ?_; refine RU.rd (V.add rfl rfl (by omega)) ?_; refine RU.rd (V.as rfl) ?_; refine RU.nil ?_
      refine RX.keep [(0, _), (1, _), (5, _), (6, _)] ⟨rfl, rfl, rfl, rfl, trivial⟩ ?_
      exact ih (10 - (i + 1)) (by omega) _ _ ⟨i + 1, rfl, by omega, _, rfl, hC4, hO4⟩
    · have e1 : ints ((startOf fr).take i) ++ [Value.int .i64 100] = ints ((startOf fr).take (i + 1)) := by
        rw [hta, if_neg (by omega), ints, ints, List.map_append]; rfl
      rw [e1] at hO3
      refine RX.skip ?_; refine RX.inBlock ?_; refine RX.region ?_; refine RU.rd (V.mv rfl) ?_; refine RU.rd (V.add rfl rfl (by omega)) ?_; refine RU.rd (V.as rfl) ?_; refine RU.nil ?_
      refine RX.keep [(0, _), (1, _), (5, _), (6, _)] ⟨rfl, rfl, rfl, rfl, trivial⟩ ?_
      exact ih (10 - (i + 1)) (by omega) _ _ ⟨i + 1, rfl, by omega, _, rfl, hC3, hO3⟩
  · have : i = 10 := by omega
    subst this
    clear ih
    rw [List.take_of_length_le (by omega)] at hO
    obtain ⟨bf, nf, cf, spf, rfl, -, hnf, hBf, -⟩ := Own.opn hO (by rw [ints_len, hsl]; decide)
    have hnf : nf = 10 := by rw [ints_len, hsl] at hnf; omega
    subst hnf
    have lnf : (ints (startOf fr)).length = 10 := by rw [ints_len, hsl]
    have hR : Rd w' 1 (.slice (some ⟨bf, 0, none⟩) 10 cf) 10 (ints (startOf fr)) := .some hBf (by rw [List.length_append, lnf]; omega) (by rw [List.drop_zero, List.take_left' lnf])
    have hs0 : ∀ x ∈ startOf fr, 0 ≤ x ∧ x ≤ 1073741824 := fun x hx => by have := startOf_mem hx; omega
    clear hO hBf
    have z0 := hC1.size
    refine RX.exit rfl ?_; refine RX.seq ?_; refine RX.region ?_; refine RU.rd (V.mv rfl) ?_
    refine RU.lo (L.call fn17 rfl (c17 hR hsl hs0 (startOf_total fr)) ?_)
    rintro _ w1 ⟨g, rfl, gr1, hgf, hL1⟩
    have hC2 := hC1.trans gr1
    have lt1 := hL1.lt
    refine RU.rd (V.mv rfl) ?_; refine RU.rd (V.ext rfl rfl) ?_; refine RU.rd (V.ext rfl rfl) ?_; refine RU.rd (V.as rfl) ?_; refine RU.rd (V.as rfl) ?_; refine RU.nil ?_; refine RX.seq ?_; refine RX.region ?_
    refine RU.rd (V.mv rfl) ?_
    refine RU.lo (L.call fn18 rfl (c18 (hR.gr gr1) hsl hs0 (startOf_total fr)) ?_)
    rintro _ w2 ⟨x, rfl, gr2, hx1, hx2, hX2⟩
    have hC3 := hC2.trans gr2
    have hL2 := hL1.gr gr2
    refine RU.rd (V.mv rfl) ?_; refine RU.rd (V.ext rfl rfl) ?_; refine RU.rd (V.ext rfl rfl) ?_; refine RU.rd (V.as rfl) ?_; refine RU.rd (V.as rfl) ?_; refine RU.nil ?_; refine RX.seq ?_; refine RX.region ?_
    refine RU.lo (L.call fn20 rfl c20 ?_)
    rintro _ w3 ⟨gr3, tb0, rfl, ht0, hT3⟩
    have hC4 := hC3.trans gr3
    have hL3 := hL2.gr gr3
    skip
    have hok : ∀ t ∈ theTracks, t.Ok := by
      intro t ht
      simp only [theTracks, List.mem_cons, List.not_mem_nil, or_false] at ht
      rcases ht with rfl | rfl | rfl <;> constructor <;> simp [Crv.Ok]
    have hT3' : Blk w3 tb0 (trsC theTracks ++ []) 80 := by rw [List.append_nil]; exact hT3
    have hcl := c19 (c := 3) hT3' hok (by decide) (by decide)
    refine RU.lo (L.call fn19 rfl hcl ?_)
    rintro _ w4 ⟨gr4, rb, tb, c4, sp4, gb, rfl, htb, hgb, hrb, hr4, ht4, hg4⟩
    have hC5 := hC4.trans gr4
    have hL4 := hL3.gr gr4
    refine RU.rd (V.mv rfl) ?_; refine RU.rd (V.ext rfl rfl) ?_; refine RU.rd (V.ext rfl rfl) ?_; refine RU.rd (V.as rfl) ?_; refine RU.rd (V.as rfl) ?_; refine RU.nil ?_; refine RX.seq ?_; refine RX.region ?_
    refine RU.lo (L.call fn20 rfl c20 ?_)
    rintro _ w5 ⟨gr5, tb1, rfl, ht1, hT5⟩
    have hC6 := hC5.trans gr5
    have hL5 := hL4.gr gr5
    skip
    have hT5' : Blk w5 tb1 (trsC theTracks ++ []) 80 := by rw [List.append_nil]; exact hT5
    have hcl := c21 (c := 3) hT5' hok (by decide) (by decide)
    refine RU.lo (L.call fn21 rfl hcl ?_)
    rintro _ w6 ⟨gr6, zb, tb2, c6, sp6, rfl, hzt, hzb, hz6, hzt6⟩
    have hC7 := hC6.trans gr6
    have hL6 := hL5.gr gr6
    refine RU.rd (V.mv rfl) ?_; refine RU.rd (V.ext rfl rfl) ?_; refine RU.rd (V.ext rfl rfl) ?_; refine RU.rd (V.as rfl) ?_; refine RU.rd (V.as rfl) ?_; refine RU.nil ?_; refine RX.seq ?_; refine RX.region ?_
    refine RU.rd (V.mv rfl) ?_
    refine RU.lo (L.call fn22 rfl c22 ?_)
    rintro _ w7 ⟨gr7, vb, g1, g2, rfl, hv1, hv2, hv3, hV7, hG1, hG2⟩
    have hC8 := hC7.trans gr7
    have hL7 := hL6.gr gr7
    refine RU.rd (V.mv rfl) ?_; refine RU.rd (V.mv rfl) ?_
    refine RU.lo (L.call fn23 rfl c23 ?_)
    rintro _ w8 ⟨gr8, yb, yp, yr, rfl, hy1, hy2, hy3, hy4, hy5, hY8, hYp, hYr⟩
    have hC9 := hC8.trans gr8
    have hL8 := hL7.gr gr8
    refine RU.rd (V.mv rfl) ?_; refine RU.rd (V.bld bf38 z38 rfl rfl) ?_; have l9_hY8 := hY8.lt; have l9_hYp := hYp.lt; have l9_hYr := hYr.lt; refine RU.lo (L.bx hC9 rfl fun b9 w9 hb9 le9 hC9 gr9 hz9 hB9 => ?_)
    have hY8 := hY8.gr gr9; have hYp := hYp.gr gr9; have hYr := hYr.gr gr9; refine RU.rd (V.as rfl) ?_; refine RU.nil ?_; refine RX.seq ?_; refine RX.seq ?_; refine RX.region ?_; refine RU.rd (V.mv rfl) ?_
    refine RU.rd (V.neq rfl rfl) ?_; refine RU.rd (V.mv rfl) ?_; refine RU.splitD (fun _ => by omega) fun h2 => ?_; refine RU.rdG rfl rfl (V.mv rfl) ?_; refine RU.rdG rfl rfl (V.neq rfl rfl) ?_
    refine RU.rd (V.pickF rfl rfl) ?_; refine RU.rd (V.mv rfl) ?_; refine RU.splitD (fun _ => by omega) fun h3 => ?_; refine RU.rdG rfl rfl (V.mv rfl) ?_; refine RU.rdG rfl rfl (V.eqNil u31 rfl rfl) ?_
    refine RU.rd (V.pickF rfl rfl) ?_; refine RU.rd (V.mv rfl) ?_; refine RU.rdG rfl rfl (V.mv rfl) ?_; refine RU.rdG rfl rfl (V.eqNil u33 rfl rfl) ?_; refine RU.rd (V.pickF rfl rfl) ?_; refine RU.rd (V.mv rfl) ?_
    refine RU.rdG rfl rfl (V.mv rfl) ?_; refine RU.rdG rfl rfl (V.nck rfl) ?_; refine RU.rdG rfl rfl (V.fld0 f38_1 rfl) ?_; refine RU.rdG rfl rfl (V.ld s32 rfl (cur hB9) rfl) ?_; refine RU.rdG rfl rfl (V.eqNil u32 rfl rfl) ?_
    refine RU.rd (V.pickF rfl rfl) ?_; refine RU.nil ?_; refine RX.condF rfl ?_; refine RX.skip ?_; refine RX.seq ?_; refine RX.seq ?_; refine RX.region ?_; refine RU.rd (V.as rfl) ?_; refine RU.nil ?_; refine RX.block ?_
    refine RX.keep [(1, _), (15, _), (16, _)] ⟨rfl, rfl, rfl, trivial⟩ ?_
    refine RX.loop (fun d e w' => e = [(1, .int .i64 0), (15, .pointer (some ⟨b9, 0, none⟩)), (16, .int .i64 0)] ∧ w' = w9) 0 ⟨rfl, rfl⟩ ?_
    rintro d e w' ⟨rfl, rfl⟩ -
    refine RX.seq ?_; refine RX.seq ?_; refine RX.region ?_; refine RU.rd (V.mv rfl) ?_; refine RU.rd (V.mv rfl) ?_; refine RU.rd (V.lss rfl rfl) ?_; refine RU.rd (V.mv rfl) ?_
    refine RU.splitD (fun _ => by omega) fun h4 => ?_; refine RU.sk rfl rfl rfl ?_; refine RU.sk rfl rfl rfl ?_; refine RU.rd (V.pickF rfl rfl) ?_; refine RU.nil ?_; refine RX.condF rfl ?_; refine RX.exit rfl ?_
    refine RX.seq ?_; refine RX.region ?_; refine RU.rd (V.mv rfl) ?_; refine RU.rd (V.as rfl) ?_; refine RU.nil ?_; refine RX.rt Tryz.func9 (by rfl) (ResOk.tmp rfl (ResOk.nil)) ?_
    have y2 := gr2.size
    have y3 := gr3.size
    have y4 := gr4.size
    have y5 := gr5.size
    have y6 := gr6.size
    have y7 := gr7.size
    have y8 := gr8.size
    have l1 := lt1 g.ab (.inr (.inl rfl))
    have l2 := hr4.lt
    have l3 := hgf g.ab (.inr (.inl rfl))
    refine ⟨⟨b9, g, vb, rb, tb, c4, sp4, gb, x.xb, yb, zb⟩, rfl, hC9, by show w.heap.size ≤ g.ab; omega, ?_, hB9, hL8.gr gr9, ((((hr4.gr gr5).gr gr6).gr gr7).gr gr8).gr gr9, ((((ht4.gr gr5).gr gr6).gr gr7).gr gr8).gr gr9, ?_, ?_, ?_⟩
    · rintro b (rfl | rfl | rfl | hb)
      · omega
      · omega
      · omega
      · have := hgf b hb; omega
    all_goals (dsimp only; omega)
end Go.Proofs.YtmcfbinkofoagaaGreat
