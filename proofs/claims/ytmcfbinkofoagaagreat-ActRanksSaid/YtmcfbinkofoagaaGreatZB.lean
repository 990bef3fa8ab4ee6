/- What a law begins with: accounts, tracks, and referenda. -/
import Derived.Test.YtmcfbinkofoagaaGreatZA
namespace Go.Proofs.YtmcfbinkofoagaaGreat
open Go Go.RowKit Sx Go.Proofs

/-- The accounts and referenda behind so many submissions. -/
def beginS (fr : List Int) : Nat → Led × List Rfd
  | 0 => (startLed fr, [])
  | i + 1 => ((beginS fr i).1.res (1 + i) 10, (beginS fr i).2 ++ [newR (1 + i) (i % 3) 0 0 fun _ => 0])
theorem startLed_ge (fr : List Int) {a : Int} (h : Led.is a) : 100 ≤ ((startLed fr).at a).1 := by
  rw [startLed_at fr h]; dsimp only; split <;> omega
theorem beginS_ok (fr : List Int) : ∀ i, (beginS fr i).1.Ok ∧ (beginS fr i).1.locks = [] ∧ (beginS fr i).1.acc.length = 10 ∧ (beginS fr i).2.length = i
  | 0 => ⟨startLed_ok fr, rfl, startLed_len fr, rfl⟩
  | i + 1 => by
    obtain ⟨h1, h2, h3, h4⟩ := beginS_ok fr i
    obtain ⟨r1, r2, r3⟩ := Led.res_ok h1 h3 (1 + i) 10
    exact ⟨r1, by show (Led.res _ _ _).locks = []; rw [r2]; exact h2, r3, by simp [beginS, h4]⟩
theorem Led.res_at {D : Led} (hl : D.acc.length = 10) {a b n : Int} (h : b ≠ a) : (D.res a n).at b = D.at b := by
  unfold Led.res
  split
  · rename_i hm
    rw [Led.at_put hl (Led.may_ok hm).1, if_neg h]
  · rfl
theorem beginS_at (fr : List Int) : ∀ (i : Nat) (a : Int), (i : Int) < a → (beginS fr i).1.at a = (startLed fr).at a
  | 0, _, _ => rfl
  | i + 1, a, h => by
    show (Led.res _ _ _).at a = _
    rw [Led.res_at (beginS_ok fr i).2.2.1 (by omega)]
    exact beginS_at fr i a (by omega)
theorem beginS_rs (fr : List Int) : ∀ i, i ≤ 5 → RsOk (beginS fr i).2
  | 0, _ => fun x hx => by simp [beginS] at hx
  | i + 1, h => fun x hx h1 => by
    rcases List.mem_append.1 hx with hx | hx
    · exact beginS_rs fr i (by omega) x hx h1
    · obtain rfl : x = newR (1 + i) (i % 3) 0 0 fun _ => 0 := by simpa using hx
      exact ⟨rfl, rfl, rfl, by show (0 : Int) ≤ 1 + i; omega, by show (1 + (i : Int)) ≤ 9; omega⟩

/-- Where both sides lie. -/
structure BG where
  pb : Nat
  q : QG
  y : YG
structure BAt (w : World) (B : BG) (pk : Nat → Nat) (gv zv : Value) (D : Led) (rs : List Rfd) (D' : Led) (rs' : List Rfd) : Prop where
  hp : Blk w B.pb [.pointer (some ⟨B.q.g.lb, 0, none⟩), .pointer (some ⟨B.q.vb, 0, none⟩), .pointer (some ⟨B.q.rb, 0, none⟩), .pointer (some ⟨B.y.x.xb, 0, none⟩), .pointer (some ⟨B.y.yb, 0, none⟩), .pointer (some ⟨B.y.zb, 0, none⟩)] 38
  hq : QAt w B.q pk gv D rs
  hy : YAt w B.y zv D' rs'
  dj : ∀ b, B.y.foot zv b → ¬ B.q.foot pk gv rs.length b
  dp : ¬ B.q.foot pk gv rs.length B.pb
  dy : ¬ B.y.foot zv B.pb
  pe : B.q.pb = B.pb
def BG.foot (B : BG) (pk : Nat → Nat) (gv zv : Value) (n b : Nat) : Prop := b = B.pb ∨ B.q.foot pk gv n b ∨ B.y.foot zv b
section
variable {w w1 : World} {B : BG} {pk pk' : Nat → Nat} {gv zv gv' zv' : Value} {D D' D1 : Led} {rs rs' rs1 : List Rfd}
theorem YAt.lt {y : YG} (h : YAt w y zv D rs) : ∀ b, y.foot zv b → b < w.heap.size := by
  rintro b (rfl | rfl | rfl | rfl | rfl | rfl | hb)
  · exact h.hx.hb.lt
  · exact h.hx.ha.lt
  · exact h.hy.lt
  · exact h.hp.lt
  · exact h.hz.lt
  · exact h.ht.lt
  · exact (h.hR.lt b hb).2
theorem BAt.lt (h : BAt w B pk gv zv D rs D' rs') : ∀ b, B.foot pk gv zv rs.length b → b < w.heap.size := by
  rintro b (rfl | hb | hb)
  · exact h.hp.lt
  · exact h.hq.lt b hb
  · exact h.hy.lt b hb
theorem BAt.ch {S : Nat → Prop} (h : BAt w B pk gv zv D rs D' rs') (hc : Ch S w w1) (hs : ∀ b, B.foot pk gv zv rs.length b → ¬ S b) : BAt w1 B pk gv zv D rs D' rs' :=
  ⟨h.hp.ch hc (hs _ (.inl rfl)), h.hq.ch hc (fun b hb => hs b (.inr (.inl hb))), h.hy.ch hc (fun b hb => hs b (.inr (.inr hb))), h.dj, h.dp, h.dy, h.pe⟩
theorem BAt.gr (h : BAt w B pk gv zv D rs D' rs') (hc : Grow w w1) : BAt w1 B pk gv zv D rs D' rs' := h.ch hc fun _ _ => id
/-- A step of the program's side. -/
theorem BAt.stepQ {S : Nat → Prop} (h : BAt w B pk gv zv D rs D' rs') (hc : Ch S w w1) (hs : ∀ b, S b → B.q.foot pk gv rs.length b) (hq : QAt w1 B.q pk' gv' D1 rs1)
    (hf : ∀ b, B.q.foot pk' gv' rs1.length b → B.q.foot pk gv rs.length b ∨ w.heap.size ≤ b) : BAt w1 B pk' gv' zv D1 rs1 D' rs' :=
  ⟨h.hp.ch hc (fun hb => h.dp (hs _ hb)), hq, h.hy.ch hc (fun b hb hS => h.dj b hb (hs b hS)), fun b hb hq' => by
    rcases hf b hq' with h1 | h1
    · exact h.dj b hb h1
    · have := h.hy.lt b hb; omega,
  fun hq' => by
    rcases hf _ hq' with h1 | h1
    · exact h.dp h1
    · have := h.hp.lt; omega, h.dy, h.pe⟩
/-- A step of the document's side. -/
theorem BAt.stepY {S : Nat → Prop} (h : BAt w B pk gv zv D rs D' rs') (hc : Ch S w w1) (hs : ∀ b, S b → B.y.foot zv b) (hy : YAt w1 B.y zv' D1 rs1)
    (hf : ∀ b, B.y.foot zv' b → B.y.foot zv b ∨ w.heap.size ≤ b) : BAt w1 B pk gv zv' D rs D1 rs1 :=
  ⟨h.hp.ch hc (fun hb => h.dy (hs _ hb)), h.hq.ch hc (fun b hb hS => h.dj b (hs b hS) hb), hy, fun b hb hq' => by
    rcases hf b hb with h1 | h1
    · exact h.dj b h1 hq'
    · have := h.hq.lt b hq'; omega,
  h.dp, fun hq' => by
    rcases hf _ hq' with h1 | h1
    · exact h.dy h1
    · have := h.hp.lt; omega, h.pe⟩
end
def nOf (refs : Int) : Nat := (min (max refs 0) 5).toNat
theorem QG.foot_mono {q : QG} {pk pk' : Nat → Nat} {gv gv' : Value} {n n' m b b0 : Nat} (h : q.foot pk' gv' n' b) (hn : n' = n + 1) (hpk : pk' = pkUpd pk n b0) (hb0 : m ≤ b0) (hg : ∀ c, inSl gv' c → m ≤ c) : q.foot pk gv n b ∨ m ≤ b := by
  subst hn hpk
  rcases h with h | h | ⟨i, hi, rfl⟩ | h | h | h | h
  · exact .inl (.inl h)
  · exact .inl (.inr (.inl h))
  · unfold pkUpd
    split
    · exact .inr hb0
    · exact .inl (.inr (.inr (.inl ⟨i, by omega, rfl⟩)))
  · exact .inl (.inr (.inr (.inr (.inl h))))
  · exact .inl (.inr (.inr (.inr (.inr (.inl h)))))
  · exact .inl (.inr (.inr (.inr (.inr (.inr (.inl h))))))
  · exact .inr (hg _ h)
theorem YG.foot_mono {y : YG} {zv zv' : Value} {m b : Nat} (h : y.foot zv' b) (hz : ∀ c, inSl zv' c → inSl zv c ∨ m ≤ c) : y.foot zv b ∨ m ≤ b := by
  rcases h with h | h | h | h | h | h | h
  · exact .inl (.inl h)
  · exact .inl (.inr (.inl h))
  · exact .inl (.inr (.inr (.inl h)))
  · exact .inl (.inr (.inr (.inr (.inl h))))
  · exact .inl (.inr (.inr (.inr (.inr (.inl h)))))
  · exact .inl (.inr (.inr (.inr (.inr (.inr (.inl h))))))
  · rcases hz _ h with h | h
    · exact .inl (.inr (.inr (.inr (.inr (.inr (.inr h))))))
    · exact .inr h
set_option maxRecDepth 100000 in
set_option maxHeartbeats 2000000 in
theorem c9g {w : World} {v : Value} {fr : List Int} {refs : Int} (hr : RdI w v fr) : Calls Tryz.prog 9 #[v, .int .i64 refs] w
    (Ret fun v w' => ∃ (B : BG) (pk : Nat → Nat) (gv zv : Value), v = .pointer (some ⟨B.pb, 0, none⟩) ∧ Grow w w' ∧ (∀ b, B.foot pk gv zv (nOf refs) b → w.heap.size ≤ b) ∧ BAt w' B pk gv zv (beginS fr (nOf refs)).1 (beginS fr (nOf refs)).2 (beginS fr (nOf refs)).1 (beginS fr (nOf refs)).2) := by
  obtain ⟨p, off, c, rfl, ax0⟩ := hr
  have hsl := startOf_len fr
  refine calls_of_rx (args := [_, _]) (e := [(0, _), (1, _)]) (n := 132) Tryz.func9 rfl rfl rfl (by kernel_rfl) rfl ?_
  have hC := Ch.refl Nil w
  have uq := True.intro
  refine RX.seq ?_; refine RX.region ?_; refine RU.rd (V.as rfl) ?_; refine RU.nil ?_; refine RX.seq ?_; refine RX.region ?_; refine RU.rd (V.as rfl) ?_; refine RU.nil ?_; refine RX.seq ?_; refine RX.seq ?_
  refine RX.region ?_; refine RU.rd (V.as rfl) ?_; refine RU.nil ?_; refine RX.block ?_
  refine RX.keep [(0, _), (1, _), (5, _), (6, _)] ⟨rfl, rfl, rfl, rfl, trivial⟩ ?_
  refine RX.loop (fun d e w' => ∃ i : Nat, d = 10 - i ∧ i ≤ 10 ∧ ∃ u, e = [(0, .slice p fr.length c), (1, .int .i64 refs), (5, u), (6, .int .i64 i)] ∧ Grow w w' ∧ Own w.heap.size w' 1 3 u (ints ((startOf fr).take i))) (10 - 0) ⟨0, rfl, by omega, .slice none 0 0, rfl, hC, .nil⟩ ?_
  rintro d e w' ⟨i, rfl, hi, u, rfl, hC1, hO⟩ ih
  clear hC
  refine RX.seq ?_; refine RX.seq ?_; refine RX.region ?_; refine RU.rd (V.mv rfl) ?_; refine RU.rd (V.lss rfl rfl) ?_; refine RU.nil ?_; refine RX.condD rfl (fun h1 => ?_) fun h1 => ?_
  · have ln0 : (ints ((startOf fr).take i)).length = i := by rw [ints_len, List.length_take]; omega
    have hi' : i < (startOf fr).length := by omega
    have hta : (startOf fr).take (i + 1) = (startOf fr).take i ++ [(startOf fr)[i]] := List.take_succ_eq_append_getElem hi'
    rw [startOf_at fr hi'] at hta
    refine RX.skip ?_; refine RX.seq ?_; refine RX.block ?_; refine RX.seq ?_; refine RX.region ?_; refine RU.rd (V.mv rfl) ?_; refine RU.lo (L.bsl hC1 e49 z3 rfl rfl rfl rfl fun b1 w1 hb1 le1 hC1 gr1 hz1 hB1 => ?_)
    refine RU.lo (L.app hC1 e49 u49 z3 rfl by3 rfl rfl (hO.gr gr1) (show Rd w1 1 (.slice (some ⟨b1, 0, none⟩) 1 1) 1 [.int .i64 100] from .some (n := 1) hB1 (Nat.le_refl _) rfl) rfl rfl (by rw [ln0]; simp; omega) fun u' w3 hC3 ch3 hO3 hin => ?_)
    obtain ⟨b3, n3, c3, sp3, rfl, le3, hn3, hB3, hown⟩ := Own.opn hO3 (by simp)
    have hn3 : n3 = i + 1 := by simp [ln0] at hn3; omega
    subst hn3
    have hB3l := hB3.lt
    refine RU.rd (V.as rfl) ?_; refine RU.nil ?_; refine RX.seq ?_; refine RX.region ?_; refine RU.rd (V.mv rfl) ?_; refine RU.rd (V.mv rfl) ?_; refine RU.rd (V.len u49 rfl) ?_; refine RU.rd (V.lss rfl rfl) ?_
    refine RU.nil ?_; refine RX.condD rfl (fun h2 => ?_) fun h2 => ?_
    · obtain ⟨b0, cs0, rfl, hbv, ha⟩ := ax0 i (by omega)
      have at2 : ∀ j (_ : j = i), cs0[off + j * 1]? = some (.int .i64 (fr.getD j 0)) := by
        rintro j rfl
        exact ha
      have ln1 : (ints ((startOf fr).take i) ++ [Value.int .i64 100] ++ sp3).length = i + 1 + sp3.length := by simp [ln0]; omega
      refine RX.region ?_; refine RU.rd (V.mv rfl) ?_; refine RU.rd (V.mv rfl) ?_; refine RU.rd (V.mv rfl) ?_; refine RU.rd (V.mv rfl) ?_; refine RU.rd (V.idx e49 rfl rfl (by omega)) ?_
      refine RU.rd (V.ldR s3 rfl (cur (hbv.gr hC3)) (at2 _ (by omega))) ?_; refine RU.rd (V.and (m := 10) rfl (by decide) rfl rfl) ?_; refine RU.rd (V.add rfl rfl (by omega)) ?_; refine RU.rd (V.idx e49 rfl rfl (by omega)) ?_
      have e1 : setAt (ints ((startOf fr).take i) ++ [Value.int .i64 100] ++ sp3) (0 + i * 1) [.int .i64 (100 + fr.getD i 0 % 1024)] = ints ((startOf fr).take (i + 1)) ++ sp3 := by
        rw [hta, if_pos (by omega), List.append_assoc, show 0 + i * 1 = ((startOf fr).take i).length + 0 by rw [List.length_take]; omega]
        have := setAt_skip (ints ((startOf fr).take i)) ([Value.int .i64 100] ++ sp3) 0 [.int .i64 (100 + fr.getD i 0 % 1024)]
        rw [ints_len] at this
        rw [this]; simp [setAt, setAt_nil, ints]
      refine RU.lo0 (L.st hC3 sz3 rfl rfl rfl rfl hB3 (by rw [ln1]; omega) (.inl le3) fun w4 hC4 ch4 hz4 hB4 => ?_)
      have hO4 := hown (ints ((startOf fr).take (i + 1))) w4 (by rw [hta]; simp [ints]) (by rw [← e1]; exact hB4)
      refine RU.nil ?_; refine RX.inBlock ?_; refine RX.region ?_; refine RU.rd (V.mv rfl) ?_; refine RU.rd (V.add rfl rfl (by omega)) ?_; refine RU.rd (V.as rfl) ?_; refine RU.nil ?_
      refine RX.keep [(0, _), (1, _), (5, _), (6, _)] ⟨rfl, rfl, rfl, rfl, trivial⟩ ?_
      exact ih (10 - (i + 1)) (by omega) _ _ ⟨i + 1, rfl, by omega, _, rfl, hC4, hO4⟩
    · have e1 : ints ((startOf fr).take i) ++ [Value.int .i64 100] = ints ((startOf fr).take (i + 1)) := by
        rw [hta, if_neg (by omega), ints, ints, List.map_append]; rfl
      rw [e1] at hO3
      refine RX.skip ?_; refine RX.inBlock ?_; refine RX.region ?_; refine RU.rd (V.mv rfl) ?_; refine RU.rd (V.add rfl rfl (by omega)) ?_; refine RU.rd (V.as rfl) ?_; refine RU.nil ?_
      refine RX.keep [(0, _), (1, _), (5, _), (6, _)] ⟨rfl, rfl, rfl, rfl, trivial⟩ ?_
      exact ih (10 - (i + 1)) (by omega) _ _ ⟨i + 1, rfl, by omega, _, rfl, hC3, hO3⟩
  · have : i = 10 := by omega
    subst this
    clear ih
    rw [List.take_of_length_le (by omega)] at hO
    obtain ⟨bf, nf, cf, spf, rfl, -, hnf, hBf, -⟩ := Own.opn hO (by rw [ints_len, hsl]; decide)
    have hnf : nf = 10 := by rw [ints_len, hsl] at hnf; omega
    subst hnf
    have lnf : (ints (startOf fr)).length = 10 := by rw [ints_len, hsl]
    have hR : Rd w' 1 (.slice (some ⟨bf, 0, none⟩) 10 cf) 10 (ints (startOf fr)) := .some hBf (by rw [List.length_append, lnf]; omega) (by rw [List.drop_zero, List.take_left' lnf])
    have hs0 : ∀ x ∈ startOf fr, 0 ≤ x ∧ x ≤ 1073741824 := fun x hx => by have := startOf_mem hx; omega
    clear hO hBf
    have z0 := hC1.size
    refine RX.exit rfl ?_; refine RX.seq ?_; refine RX.region ?_; refine RU.rd (V.mv rfl) ?_
    refine RU.lo (L.call fn17 rfl (c17 hR hsl hs0 (startOf_total fr)) ?_)
    rintro _ w1 ⟨g, rfl, gr1, hgf, hL1⟩
    have hC2 := hC1.trans gr1
    have lt1 := hL1.lt
    refine RU.rd (V.mv rfl) ?_; refine RU.rd (V.ext rfl rfl) ?_; refine RU.rd (V.ext rfl rfl) ?_; refine RU.rd (V.as rfl) ?_; refine RU.rd (V.as rfl) ?_; refine RU.nil ?_; refine RX.seq ?_; refine RX.region ?_
    refine RU.rd (V.mv rfl) ?_
    refine RU.lo (L.call fn18 rfl (c18 (hR.gr gr1) hsl hs0 (startOf_total fr)) ?_)
    rintro _ w2 ⟨x, rfl, gr2, hx1, hx2, hX2⟩
    have hC3 := hC2.trans gr2
    have hL2 := hL1.gr gr2
    refine RU.rd (V.mv rfl) ?_; refine RU.rd (V.ext rfl rfl) ?_; refine RU.rd (V.ext rfl rfl) ?_; refine RU.rd (V.as rfl) ?_; refine RU.rd (V.as rfl) ?_; refine RU.nil ?_; refine RX.seq ?_; refine RX.region ?_
    refine RU.lo (L.call fn20 rfl c20 ?_)
    rintro _ w3 ⟨gr3, tb0, rfl, ht0, hT3⟩
    have hC4 := hC3.trans gr3
    have hL3 := hL2.gr gr3
    skip
    have hok : ∀ t ∈ theTracks, t.Ok := by
      intro t ht
      simp only [theTracks, List.mem_cons, List.not_mem_nil, or_false] at ht
      rcases ht with rfl | rfl | rfl <;> constructor <;> simp [Crv.Ok]
    have hT3' : Blk w3 tb0 (trsC theTracks ++ []) 80 := by rw [List.append_nil]; exact hT3
    have hcl := c19 (c := 3) hT3' hok (by decide) (by decide)
    refine RU.lo (L.call fn19 rfl hcl ?_)
    rintro _ w4 ⟨gr4, rb, tb, c4, sp4, gb, rfl, htb, hgb, hrb, hr4, ht4, hg4⟩
    have hC5 := hC4.trans gr4
    have hL4 := hL3.gr gr4
    refine RU.rd (V.mv rfl) ?_; refine RU.rd (V.ext rfl rfl) ?_; refine RU.rd (V.ext rfl rfl) ?_; refine RU.rd (V.as rfl) ?_; refine RU.rd (V.as rfl) ?_; refine RU.nil ?_; refine RX.seq ?_; refine RX.region ?_
    refine RU.lo (L.call fn20 rfl c20 ?_)
    rintro _ w5 ⟨gr5, tb1, rfl, ht1, hT5⟩
    have hC6 := hC5.trans gr5
    have hL5 := hL4.gr gr5
    skip
    have hT5' : Blk w5 tb1 (trsC theTracks ++ []) 80 := by rw [List.append_nil]; exact hT5
    have hcl := c21 (c := 3) hT5' hok (by decide) (by decide)
    refine RU.lo (L.call fn21 rfl hcl ?_)
    rintro _ w6 ⟨gr6, zb, tb2, c6, sp6, rfl, hzt, hzb, hz6, hzt6⟩
    have hC7 := hC6.trans gr6
    have hL6 := hL5.gr gr6
    refine RU.rd (V.mv rfl) ?_; refine RU.rd (V.ext rfl rfl) ?_; refine RU.rd (V.ext rfl rfl) ?_; refine RU.rd (V.as rfl) ?_; refine RU.rd (V.as rfl) ?_; refine RU.nil ?_; refine RX.seq ?_; refine RX.region ?_
    refine RU.rd (V.mv rfl) ?_
    refine RU.lo (L.call fn22 rfl c22 ?_)
    rintro _ w7 ⟨gr7, vb, g1, g2, rfl, hv1, hv2, hv3, hV7, hG1, hG2⟩
    have hC8 := hC7.trans gr7
    have hL7 := hL6.gr gr7
    refine RU.rd (V.mv rfl) ?_; refine RU.rd (V.mv rfl) ?_
    refine RU.lo (L.call fn23 rfl c23 ?_)
    rintro _ w8 ⟨gr8, yb, yp, yr, rfl, hy1, hy2, hy3, hy4, hy5, hY8, hYp, hYr⟩
    have hC9 := hC8.trans gr8
    have hL8 := hL7.gr gr8
    refine RU.rd (V.mv rfl) ?_; refine RU.rd (V.bld bf38 z38 rfl rfl) ?_; have l9_hY8 := hY8.lt; have l9_hYp := hYp.lt; have l9_hYr := hYr.lt; refine RU.lo (L.bx hC9 rfl fun b9 w9 hb9 le9 hC9 gr9 hz9 hB9 => ?_)
    have hY8 := hY8.gr gr9; have hYp := hYp.gr gr9; have hYr := hYr.gr gr9; refine RU.rd (V.as rfl) ?_; refine RU.nil ?_; refine RX.seq ?_; refine RX.seq ?_; refine RX.region ?_; refine RU.rd (V.mv rfl) ?_
    refine RU.rd (V.neq rfl rfl) ?_; refine RU.rd (V.mv rfl) ?_; refine RU.splitD (fun _ => by omega) fun h2 => ?_; refine RU.rdG rfl rfl (V.mv rfl) ?_; refine RU.rdG rfl rfl (V.neq rfl rfl) ?_
    refine RU.rd (V.pickF rfl rfl) ?_; refine RU.rd (V.mv rfl) ?_; refine RU.splitD (fun _ => by omega) fun h3 => ?_; refine RU.rdG rfl rfl (V.mv rfl) ?_; refine RU.rdG rfl rfl (V.eqNil u31 rfl rfl) ?_
    refine RU.rd (V.pickF rfl rfl) ?_; refine RU.rd (V.mv rfl) ?_; refine RU.rdG rfl rfl (V.mv rfl) ?_; refine RU.rdG rfl rfl (V.eqNil u33 rfl rfl) ?_; refine RU.rd (V.pickF rfl rfl) ?_; refine RU.rd (V.mv rfl) ?_
    refine RU.rdG rfl rfl (V.mv rfl) ?_; refine RU.rdG rfl rfl (V.nck rfl) ?_; refine RU.rdG rfl rfl (V.fld0 f38_1 rfl) ?_; refine RU.rdG rfl rfl (V.ld s32 rfl (cur hB9) rfl) ?_; refine RU.rdG rfl rfl (V.eqNil u32 rfl rfl) ?_
    refine RU.rd (V.pickF rfl rfl) ?_; refine RU.nil ?_; refine RX.condF rfl ?_; refine RX.skip ?_; refine RX.seq ?_; refine RX.seq ?_; refine RX.region ?_; refine RU.rd (V.as rfl) ?_; refine RU.nil ?_; refine RX.block ?_
    have y1 := gr1.size
    have y2 := gr2.size
    have y3 := gr3.size
    have y4 := gr4.size
    have y5 := gr5.size
    have y6 := gr6.size
    have y7 := gr7.size
    have y8 := gr8.size
    have lz := hz6.lt
    have lv := hV7.lt
    have lr := hr4.lt
    have ly := hY8.lt
    have lx := hX2.hb.lt
    have lxa := hX2.ha.lt
    have lrb := hr4.lt
    have gz9 : ∀ {b cs T}, Blk w6 b cs T → Blk w9 b cs T := fun hb => ((hb.gr gr7).gr gr8).gr gr9
    have QA : QAt w9 ⟨b9, g, vb, g1, g2, rb, tb, c4, sp4, gb⟩ (fun _ => 0) (.slice none 0 0) (startLed fr) [] :=
      ⟨hL8.gr gr9, ((hV7.gr gr8).gr gr9), fun i hi => absurd hi (Nat.not_lt_zero i), gz9 ((hr4.gr gr5).gr gr6), gz9 ((ht4.gr gr5).gr gr6), ⟨gz9 ((hg4.gr gr5).gr gr6), .nil 0, inSl.no⟩, Nat.zero_le _, rfl, startLed_ok fr,
        fun b hb => by show b < tb; have := lt1 b hb; omega, by show tb < gb; exact hgb, by show gb < rb; exact hrb, by show rb < vb; omega, by show vb < b9; omega, fun i hi => absurd hi (Nat.not_lt_zero i), fun b hb => absurd hb inSl.no, fun i hi => absurd hi (Nat.not_lt_zero i), fun i j hi => absurd hi (Nat.not_lt_zero i)⟩
    have YA : YAt w9 ⟨x, yb, yp, .slice (some ⟨yr, 0, none⟩) 40 40, zb, tb2, c6, sp6⟩ (.slice none 0 0) (startLed fr) [] :=
      ⟨((((((hX2.gr gr3).gr gr4).gr gr5).gr gr6).gr gr7).gr gr8).gr gr9, hY8, hYp, gz9 hz6, gz9 hzt6, .nil, Nat.zero_le _, startLed_ok fr, by show x.ab < tb2; omega, by show x.xb < tb2; omega, hzb, by show zb < yp; omega, hy4⟩
    have qf : ∀ b, QG.foot ⟨b9, g, vb, g1, g2, rb, tb, c4, sp4, gb⟩ (fun _ => 0) (.slice none 0 0) 0 b → (w.heap.size ≤ b ∧ b < b9) ∧ b ≠ x.xb ∧ b ≠ x.ab ∧ b ≠ yb ∧ b ≠ yp ∧ b ≠ zb ∧ b ≠ tb2 := by
      rintro b (hb | rfl | ⟨i, hi, -⟩ | rfl | rfl | rfl | hb)
      · have := hgf b hb; have := lt1 b hb; omega
      · (try dsimp only); omega
      · omega
      · (try dsimp only); omega
      · (try dsimp only); omega
      · (try dsimp only); omega
      · exact absurd hb inSl.no
    have yf : ∀ b, YG.foot ⟨x, yb, yp, .slice (some ⟨yr, 0, none⟩) 40 40, zb, tb2, c6, sp6⟩ (.slice none 0 0) b → (w.heap.size ≤ b ∧ b < b9) ∧ (b = x.xb ∨ b = x.ab ∨ b = yb ∨ b = yp ∨ b = zb ∨ b = tb2) := by
      rintro b (rfl | rfl | rfl | rfl | rfl | rfl | hb)
      · (try dsimp only); omega
      · (try dsimp only); omega
      · (try dsimp only); omega
      · (try dsimp only); omega
      · (try dsimp only); omega
      · (try dsimp only); omega
      · exact absurd hb inSl.no
    have BA0 : BAt w9 ⟨b9, ⟨b9, g, vb, g1, g2, rb, tb, c4, sp4, gb⟩, ⟨x, yb, yp, .slice (some ⟨yr, 0, none⟩) 40 40, zb, tb2, c6, sp6⟩⟩ (fun _ => 0) (.slice none 0 0) (.slice none 0 0) (startLed fr) [] (startLed fr) [] :=
      ⟨hB9, QA, YA, fun b hb hq => by have h1 := yf b hb; have h2 := qf b hq; omega, fun hq => by have := qf _ hq; dsimp only at this; omega, fun hy => by have := yf _ hy; dsimp only at this; omega, rfl⟩
    have F0 : ∀ b, BG.foot ⟨b9, ⟨b9, g, vb, g1, g2, rb, tb, c4, sp4, gb⟩, ⟨x, yb, yp, .slice (some ⟨yr, 0, none⟩) 40 40, zb, tb2, c6, sp6⟩⟩ (fun _ => 0) (.slice none 0 0) (.slice none 0 0) 0 b → w.heap.size ≤ b := by
      rintro b (rfl | hb | hb)
      · (try dsimp only); omega
      · exact (qf b hb).1.1
      · exact (yf b hb).1.1
    have hb9 : b9 = BG.pb ⟨b9, ⟨b9, g, vb, g1, g2, rb, tb, c4, sp4, gb⟩, ⟨x, yb, yp, .slice (some ⟨yr, 0, none⟩) 40 40, zb, tb2, c6, sp6⟩⟩ := rfl
    generalize (⟨b9, ⟨b9, g, vb, g1, g2, rb, tb, c4, sp4, gb⟩, ⟨x, yb, yp, .slice (some ⟨yr, 0, none⟩) 40 40, zb, tb2, c6, sp6⟩⟩ : BG) = B at BA0 F0 hb9
    clear qf yf QA YA gz9 hL8 hV7 hr4 ht4 hg4 hX2 hY8 hYp hz6 hzt6 hR hs0 hG1 hG2
    subst hb9
    refine RX.keep [(1, _), (15, _), (16, _)] ⟨rfl, rfl, rfl, trivial⟩ ?_
    refine RX.loop (fun d e w' => ∃ i : Nat, d = 5 - i ∧ i ≤ nOf refs ∧ e = [(1, .int .i64 refs), (15, .pointer (some ⟨B.pb, 0, none⟩)), (16, .int .i64 i)] ∧ Grow w w' ∧ ∃ pk gv zv, (∀ b, B.foot pk gv zv (beginS fr i).2.length b → w.heap.size ≤ b) ∧ BAt w' B pk gv zv (beginS fr i).1 (beginS fr i).2 (beginS fr i).1 (beginS fr i).2) (5 - 0) ⟨0, rfl, Nat.zero_le _, rfl, hC9, _, _, _, F0, BA0⟩ ?_
    rintro d e w' ⟨i, rfl, hi, rfl, hC1, pk, gv, zv, F1, B1⟩ ih
    clear hC9 BA0 F0
    have hl5 : nOf refs ≤ 5 := by unfold nOf; omega
    have hp1 := B1.hp
    refine RX.seq ?_; refine RX.seq ?_; refine RX.region ?_; refine RU.rd (V.mv rfl) ?_; refine RU.rd (V.mv rfl) ?_; refine RU.rd (V.lss rfl rfl) ?_; refine RU.rd (V.mv rfl) ?_; refine RU.splitD (fun h4 => ?_) fun h4 => ?_
    · refine RU.rdG rfl rfl (V.mv rfl) ?_; refine RU.rdG rfl rfl (V.lss rfl rfl) ?_; refine RU.rd (V.pickT rfl rfl) ?_; refine RU.nil ?_; refine RX.condD rfl (fun h5 => ?_) fun h5 => ?_
      · refine RX.skip ?_; refine RX.seq ?_; refine RX.block ?_; refine RX.seq ?_
        refine RX.draw (Ch Nil w') [3, 7, 11] [(0, true), (1, true), (2, true), (3, true), (4, true), (5, true), (6, true), (7, true), (8, true), (9, true), (10, true), (11, true), (12, true), (13, true), (14, true), (15, true), (16, true), (17, false)] mixed (by kernel_rfl) fun w10 gr10 hz10 => ?_
        have hC10 := hC1.trans (Ch.of_grow gr10); have hp1d10 := hp1.gr gr10; refine RD.rz rfl (V.mv rfl) ?_; refine RD.rz rfl (V.nck rfl) ?_; refine RD.rz rfl (V.fld0 f38_2 rfl) ?_
        refine RD.rd rfl rfl gr10 (V.ld s33 rfl (fun _ hS => hp1.gr hS) rfl) ?_; refine RD.rz rfl (V.mv rfl) ?_; refine RD.rz rfl (V.nck rfl) ?_; refine RD.rz rfl (V.fld0 f38_0 rfl) ?_
        refine RD.rd rfl rfl gr10 (V.ld s31 rfl (fun _ hS => hp1.gr hS) rfl) ?_; refine RD.rz rfl (V.mv rfl) ?_; refine RD.rz rfl (V.nck rfl) ?_; refine RD.rz rfl (V.fld0 f38_1 rfl) ?_
        refine RD.rd rfl rfl gr10 (V.ld s32 rfl (fun _ hS => hp1.gr hS) rfl) ?_; refine RD.rz rfl (V.mv rfl) ?_; refine RD.rz rfl (V.add rfl rfl (by omega)) ?_; refine RD.rz rfl (V.mv rfl) ?_
        refine RD.rz rfl (V.rem rfl rfl (by omega)) ?_; refine RD.rz rfl (V.bldA ar40 z40 rfl rfl) ?_
        obtain ⟨k1, k2, k3, k4⟩ := beginS_ok fr i
        have hi3 : (i : Int) < 5 := by assumption
        have hfree : 10 ≤ ((beginS fr i).1.at (1 + i)).1 := by
          rw [beginS_at fr i _ (by omega)]
          have := startLed_ge fr (a := 1 + i) ⟨by omega, by omega⟩
          omega
        have B2 := B1.gr gr10
        refine RD.lf rfl (by kernel_rfl) (L.call fn24 rfl (c24 (who := 1 + i) (t := i % 3) B2.hq (by rw [B2.pe]; exact B2.hp.lt) (by omega) (by omega) (by rw [k4]; omega) hfree) ?_)
        rintro _ w11 ⟨b11, gv', lb11, ch11, hq11, lg11⟩
        have lB2 : ∀ b, B.foot pk gv zv (beginS fr i).2.length b → w.heap.size ≤ b := F1
        have B3 := B2.stepQ ch11 (by
          rintro b (rfl | rfl | rfl)
          · exact .inl (.inr (.inl rfl))
          · exact .inr (.inl rfl)
          · exact .inr (.inr (.inr (.inr (.inr (.inl rfl)))))) hq11 (fun b hb => QG.foot_mono hb (by simp) rfl lb11 lg11)
        have hC11 : Grow w w11 := hC10.trans' ch11 (fun b hb hS => by
          have := F1 b (by
            rcases hS with rfl | rfl | rfl
            · exact .inr (.inl (.inl (.inr (.inl rfl))))
            · exact .inr (.inl (.inr (.inl rfl)))
            · exact .inr (.inl (.inr (.inr (.inr (.inr (.inr (.inl rfl))))))))
          omega)
        clear hp1
        have hp1 := B3.hp
        refine RD.nil ?_
        refine RX.draw (Ch Nil w11) [3, 7, 11] [(0, true), (1, true), (2, true), (3, true), (4, true), (5, true), (6, true), (7, true), (8, true), (9, true), (10, true), (11, true), (12, true), (13, true), (14, true), (15, true), (16, true), (17, false)] mixed (by kernel_rfl) fun w12 gr12 hz12 => ?_
        have hC12 := hC11.trans (Ch.of_grow gr12); have hp1d12 := hp1.gr gr12; refine RD.rz rfl (V.mv rfl) ?_; refine RD.rz rfl (V.nck rfl) ?_; refine RD.rz rfl (V.fld0 f38_5 rfl) ?_
        refine RD.rd rfl rfl gr12 (V.ld s36 rfl (fun _ hS => hp1.gr hS) rfl) ?_; refine RD.rz rfl (V.mv rfl) ?_; refine RD.rz rfl (V.nck rfl) ?_; refine RD.rz rfl (V.fld0 f38_3 rfl) ?_
        refine RD.rd rfl rfl gr12 (V.ld s34 rfl (fun _ hS => hp1.gr hS) rfl) ?_; refine RD.rz rfl (V.mv rfl) ?_; refine RD.rz rfl (V.nck rfl) ?_; refine RD.rz rfl (V.fld0 f38_4 rfl) ?_
        refine RD.rd rfl rfl gr12 (V.ld s35 rfl (fun _ hS => hp1.gr hS) rfl) ?_; refine RD.rz rfl (V.mv rfl) ?_; refine RD.rz rfl (V.add rfl rfl (by omega)) ?_; refine RD.rz rfl (V.mv rfl) ?_
        refine RD.rz rfl (V.rem rfl rfl (by omega)) ?_; refine RD.rz rfl (V.bldA ar40 z40 rfl rfl) ?_
        have B4 := B3.gr gr12
        have F4 : ∀ b, B.foot (pkUpd pk (beginS fr i).2.length b11) gv' zv (beginS fr (i + 1)).2.length b → w.heap.size ≤ b := by
          have hw0 : w.heap.size ≤ w10.heap.size := hC10.size
          rintro b (rfl | hb | hb)
          · exact F1 _ (.inl rfl)
          · rcases QG.foot_mono hb (by simp [beginS]) rfl lb11 lg11 with h1 | h1
            · exact F1 _ (.inr (.inl h1))
            · omega
          · exact F1 _ (.inr (.inr hb))
        refine RD.lf rfl (by kernel_rfl) (L.call fn25 rfl (c25 (who := 1 + i) (t := i % 3) B4.hy (by omega) (by omega) (by rw [k4]; omega) hfree) ?_)
        rintro _ w13 ⟨zv', ch13, hy13, lz13⟩
        have B5 := B4.stepY ch13 (by
          rintro b (rfl | rfl | rfl | hb)
          · exact .inr (.inl rfl)
          · exact .inr (.inr (.inr (.inl rfl)))
          · exact .inr (.inr (.inr (.inr (.inl rfl))))
          · exact .inr (.inr (.inr (.inr (.inr (.inr hb)))))) hy13 (fun b hb => YG.foot_mono hb lz13)
        have hC13 : Grow w w13 := hC12.trans' ch13 (fun b hb hS => by
          have := F4 b (by
            rcases hS with rfl | rfl | rfl | hb
            · exact .inr (.inr (.inr (.inl rfl)))
            · exact .inr (.inr (.inr (.inr (.inr (.inl rfl)))))
            · exact .inr (.inr (.inr (.inr (.inr (.inr (.inl rfl))))))
            · exact .inr (.inr (.inr (.inr (.inr (.inr (.inr (.inr hb))))))))
          omega)
        have F5 : ∀ b, B.foot (pkUpd pk (beginS fr i).2.length b11) gv' zv' (beginS fr (i + 1)).2.length b → w.heap.size ≤ b := by
          have hw0 : w.heap.size ≤ w12.heap.size := hC12.size
          rintro b (rfl | hb | hb)
          · exact F4 _ (.inl rfl)
          · exact F4 _ (.inr (.inl hb))
          · rcases YG.foot_mono hb lz13 with h1 | h1
            · exact F4 _ (.inr (.inr h1))
            · omega
        clear hp1
        refine RD.nil ?_; refine RX.inBlock ?_; refine RX.region ?_; refine RU.rd (V.mv rfl) ?_; refine RU.rd (V.add rfl rfl (by omega)) ?_; refine RU.rd (V.as rfl) ?_; refine RU.nil ?_
        refine RX.keep [(1, _), (15, _), (16, _)] ⟨rfl, rfl, rfl, trivial⟩ ?_
        exact ih (5 - (i + 1)) (by omega) _ _ ⟨i + 1, rfl, by unfold nOf; omega, by simp, by assumption, _, _, _, F5, B5⟩
      · have e5 : nOf refs = i := by unfold nOf at *; omega
        have k4 := (beginS_ok fr i).2.2.2
        refine RX.exit rfl ?_; refine RX.seq ?_; refine RX.region ?_; refine RU.rd (V.mv rfl) ?_; refine RU.rd (V.as rfl) ?_; refine RU.nil ?_; refine RX.rt Tryz.func9 (by rfl) (ResOk.tmp rfl (ResOk.nil)) ?_
        refine ⟨B, pk, gv, zv, rfl, hC1, ?_, ?_⟩
        · rw [e5]; rwa [k4] at F1
        · rw [e5]; exact B1
    · have e5 : nOf refs = i := by unfold nOf at *; omega
      have k4 := (beginS_ok fr i).2.2.2
      refine RU.sk rfl rfl rfl ?_; refine RU.sk rfl rfl rfl ?_; refine RU.rd (V.pickF rfl rfl) ?_; refine RU.nil ?_; refine RX.condF rfl ?_; refine RX.exit rfl ?_; refine RX.seq ?_; refine RX.region ?_
      refine RU.rd (V.mv rfl) ?_; refine RU.rd (V.as rfl) ?_; refine RU.nil ?_; refine RX.rt Tryz.func9 (by rfl) (ResOk.tmp rfl (ResOk.nil)) ?_
      refine ⟨B, pk, gv, zv, rfl, hC1, ?_, ?_⟩
      · rw [e5]; rwa [k4] at F1
      · rw [e5]; exact B1
end Go.Proofs.YtmcfbinkofoagaaGreat
