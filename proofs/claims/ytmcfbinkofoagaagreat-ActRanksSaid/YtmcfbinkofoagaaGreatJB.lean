/- A batch within a batch does what its calls do in one row. -/
import Derived.Test.YtmcfbinkofoagaaGreatJA
namespace Go.Proofs.YtmcfbinkofoagaaGreat
open Go Go.RowKit Sx Go.Proofs

/-- Two calls under way, and a row. -/
structure Nst (W0 : Nat) (w : World) (bo bi : Nat) (uo ui ur : Value) (A B C : List (Int × Int × Int)) : Prop where
  ho : Blk w bo [.int .i64 5, .int .i64 0, .int .i64 0, uo] 26
  hi : Blk w bi [.int .i64 5, .int .i64 0, .int .i64 0, ui] 26
  oo : Own W0 w 4 26 uo (rws leafC A)
  oi : Own W0 w 4 26 ui (rws leafC B)
  or : Own W0 w 4 26 ur (rws leafC C)
  ne : bo ≠ bi
  lo : W0 ≤ bo
  li : W0 ≤ bi
  d1 : ∀ b, inSl uo b → b ≠ bo ∧ b ≠ bi ∧ ¬ inSl ui b ∧ ¬ inSl ur b
  d2 : ∀ b, inSl ui b → b ≠ bo ∧ b ≠ bi ∧ ¬ inSl ur b
  d3 : ∀ b, inSl ur b → b ≠ bo ∧ b ≠ bi
section
variable {W0 : Nat} {w w1 w2 : World} {bo bi : Nat} {uo ui ur u' : Value} {A B C : List (Int × Int × Int)} {x : Int × Int × Int}
theorem Nst.gr (h : Nst W0 w bo bi uo ui ur A B C) (hc : Grow w w1) : Nst W0 w1 bo bi uo ui ur A B C :=
  ⟨h.ho.gr hc, h.hi.gr hc, h.oo.gr hc, h.oi.gr hc, h.or.gr hc, h.ne, h.lo, h.li, h.d1, h.d2, h.d3⟩
theorem Nst.pushO (h : Nst W0 w bo bi uo ui ur A B C) (ch1 : Ch (inSl uo) w w1) (hO : Own W0 w1 4 26 u' (rws leafC (A ++ [x]))) (hin : ∀ b, inSl u' b → inSl uo b ∨ w.heap.size ≤ b)
    (ch2 : Ch (· = bo) w1 w2) (hb : Blk w2 bo [.int .i64 5, .int .i64 0, .int .i64 0, u'] 26) : Nst W0 w2 bo bi u' ui ur (A ++ [x]) B C := by
  have l1 := h.ho.lt
  have l2 := h.hi.lt
  have hd : ∀ b, inSl u' b → b ≠ bo ∧ b ≠ bi ∧ ¬ inSl ui b ∧ ¬ inSl ur b := by
    intro b hb
    rcases hin b hb with h1 | h1
    · exact h.d1 b h1
    · exact ⟨by omega, by omega, fun h2 => by have := (h.oi.lt b h2).2; omega, fun h2 => by have := (h.or.lt b h2).2; omega⟩
  exact ⟨hb, (h.hi.ch ch1 fun h1 => (h.d1 _ h1).2.1 rfl).ch ch2 (fun h1 => h.ne h1.symm), hO.ch ch2 (by rintro b hx rfl; exact (hd _ hx).1 rfl),
    (h.oi.ch ch1 fun b hb h1 => (h.d1 _ h1).2.2.1 hb).ch ch2 (by rintro b hx rfl; exact (h.d2 _ hx).1 rfl),
    (h.or.ch ch1 fun b hb h1 => (h.d1 _ h1).2.2.2 hb).ch ch2 (by rintro b hx rfl; exact (h.d3 _ hx).1 rfl), h.ne, h.lo, h.li, hd, h.d2, h.d3⟩
theorem Nst.pushI (h : Nst W0 w bo bi uo ui ur A B C) (ch1 : Ch (inSl ui) w w1) (hO : Own W0 w1 4 26 u' (rws leafC (B ++ [x]))) (hin : ∀ b, inSl u' b → inSl ui b ∨ w.heap.size ≤ b)
    (ch2 : Ch (· = bi) w1 w2) (hb : Blk w2 bi [.int .i64 5, .int .i64 0, .int .i64 0, u'] 26) : Nst W0 w2 bo bi uo u' ur A (B ++ [x]) C := by
  have l1 := h.ho.lt
  have l2 := h.hi.lt
  have hd : ∀ b, inSl u' b → b ≠ bo ∧ b ≠ bi ∧ ¬ inSl ur b ∧ ¬ inSl uo b := by
    intro b hb
    rcases hin b hb with h1 | h1
    · exact ⟨(h.d2 b h1).1, (h.d2 b h1).2.1, (h.d2 b h1).2.2, fun h2 => (h.d1 b h2).2.2.1 h1⟩
    · exact ⟨by omega, by omega, fun h2 => by have := (h.or.lt b h2).2; omega, fun h2 => by have := (h.oo.lt b h2).2; omega⟩
  exact ⟨(h.ho.ch ch1 fun h1 => (h.d2 _ h1).1 rfl).ch ch2 (fun h1 => h.ne h1), hb,
    (h.oo.ch ch1 fun b hb h1 => (h.d1 _ hb).2.2.1 h1).ch ch2 (by rintro b hx rfl; exact (h.d1 _ hx).2.1 rfl), hO.ch ch2 (by rintro b hx rfl; exact (hd _ hx).2.1 rfl),
    (h.or.ch ch1 fun b hb h1 => (h.d2 _ h1).2.2 hb).ch ch2 (by rintro b hx rfl; exact (h.d3 _ hx).2 rfl), h.ne, h.lo, h.li,
    fun b hb => ⟨(h.d1 b hb).1, (h.d1 b hb).2.1, fun h2 => (hd b h2).2.2.2 hb, (h.d1 b hb).2.2.2⟩, fun b hb => ⟨(hd b hb).1, (hd b hb).2.1, (hd b hb).2.2.1⟩, h.d3⟩
theorem Nst.pushR (h : Nst W0 w bo bi uo ui ur A B C) (ch1 : Ch (inSl ur) w w1) (hO : Own W0 w1 4 26 u' (rws leafC (C ++ [x]))) (hin : ∀ b, inSl u' b → inSl ur b ∨ w.heap.size ≤ b) : Nst W0 w1 bo bi uo ui u' A B (C ++ [x]) := by
  have l1 := h.ho.lt
  have l2 := h.hi.lt
  have hd : ∀ b, inSl u' b → b ≠ bo ∧ b ≠ bi ∧ ¬ inSl ui b ∧ ¬ inSl uo b := by
    intro b hb
    rcases hin b hb with h1 | h1
    · exact ⟨(h.d3 b h1).1, (h.d3 b h1).2, fun h2 => (h.d2 b h2).2.2 h1, fun h2 => (h.d1 b h2).2.2.2 h1⟩
    · exact ⟨by omega, by omega, fun h2 => by have := (h.oi.lt b h2).2; omega, fun h2 => by have := (h.oo.lt b h2).2; omega⟩
  exact ⟨h.ho.ch ch1 fun h1 => (h.d3 _ h1).1 rfl, h.hi.ch ch1 fun h1 => (h.d3 _ h1).2 rfl, h.oo.ch ch1 fun b hb h1 => (h.d1 _ hb).2.2.2 h1, h.oi.ch ch1 fun b hb h1 => (h.d2 _ hb).2.2 h1,
    hO, h.ne, h.lo, h.li, fun b hb => ⟨(h.d1 b hb).1, (h.d1 b hb).2.1, (h.d1 b hb).2.2.1, fun h2 => (hd b h2).2.2.2 hb⟩, fun b hb => ⟨(h.d2 b hb).1, (h.d2 b hb).2.1, fun h2 => (hd b h2).2.2.1 hb⟩, fun b hb => ⟨(hd b hb).1, (hd b hb).2.1⟩⟩
end
/-- Numbers that are read. -/
theorem RdI.blk {w : World} {v : Value} {l : List Int} (h : RdI w v l) (h0 : 0 < l.length) : ∃ b off c cs, v = .slice (some ⟨b, off, none⟩) l.length c ∧ BlkR w b cs ∧ ∀ j (_ : j < l.length), cs[off + j * 1]? = some (.int .i64 (l.getD j 0)) := by
  obtain ⟨p, off, c, rfl, ax0⟩ := h
  obtain ⟨b0, cs0, rfl, hbv0, -⟩ := ax0 0 h0
  refine ⟨b0, off, c, cs0, rfl, hbv0, fun j hj => ?_⟩
  obtain ⟨b', cs', e, hb', ha'⟩ := ax0 j hj
  cases e
  have : cs' = cs0 := by
    apply List.ext_getElem?
    intro k; rw [← hb'.cell k, hbv0.cell k]
  rw [← this]; exact ha'

set_option maxHeartbeats 2000000 in
theorem c6 {w : World} {v v2 : Value} {l m : List Int} (hl : RdI w v l) (hm : RdI w v2 m) : Calls Tryz.prog 6 #[v, v2] w (Ret fun v w' => v = .bool true ∧ Grow w w') := by
  by_cases hg : (l.length : Int) < 1 ∨ 3 < (l.length : Int) ∨ (m.length : Int) < 1 ∨ 4 < (m.length : Int)
  · obtain ⟨p, off, c, rfl, -⟩ := hl
    obtain ⟨p2, off2, c2, rfl, -⟩ := hm
    refine calls_of_rx (args := [_, _]) (e := [(0, _), (1, _)]) (n := 200) Tryz.func6 rfl rfl rfl (by kernel_rfl) rfl ?_
    have hC := Ch.refl Nil w
    refine RX.seq ?_; refine RX.region ?_; refine RU.rd (V.as rfl) ?_; refine RU.nil ?_; refine RX.seq ?_; refine RX.seq ?_; refine RX.region ?_; refine RU.rd (V.mv rfl) ?_; refine RU.rd (V.len u49 rfl) ?_
    refine RU.rd (V.lss rfl rfl) ?_; refine RU.rd (V.mv rfl) ?_; refine RU.splitD (fun h1 => ?_) fun h1 => ?_
    · refine RU.sk rfl rfl rfl ?_; refine RU.sk rfl rfl rfl ?_; refine RU.sk rfl rfl rfl ?_; refine RU.rd (V.pickT rfl rfl) ?_; refine RU.rd (V.mv rfl) ?_; refine RU.sk rfl rfl rfl ?_; refine RU.sk rfl rfl rfl ?_
      refine RU.sk rfl rfl rfl ?_; refine RU.rd (V.pickT rfl rfl) ?_; refine RU.rd (V.mv rfl) ?_; refine RU.sk rfl rfl rfl ?_; refine RU.sk rfl rfl rfl ?_; refine RU.sk rfl rfl rfl ?_; refine RU.rd (V.pickT rfl rfl) ?_
      refine RU.nil ?_; refine RX.condT rfl ?_; refine RX.seq ?_; refine RX.region ?_; refine RU.rd (V.as rfl) ?_; refine RU.nil ?_; refine RX.rt Tryz.func6 (by rfl) (ResOk.tmp rfl (ResOk.nil)) ?_
      exact ⟨rfl, by assumption⟩
    · refine RU.rdG rfl rfl (V.mv rfl) ?_; refine RU.rdG rfl rfl (V.len u49 rfl) ?_; refine RU.rdG rfl rfl (V.gtr rfl rfl) ?_; refine RU.rd (V.pickF rfl rfl) ?_; refine RU.rd (V.mv rfl) ?_
      refine RU.splitD (fun h2 => ?_) fun h2 => ?_
      · refine RU.sk rfl rfl rfl ?_; refine RU.sk rfl rfl rfl ?_; refine RU.sk rfl rfl rfl ?_; refine RU.rd (V.pickT rfl rfl) ?_; refine RU.rd (V.mv rfl) ?_; refine RU.sk rfl rfl rfl ?_; refine RU.sk rfl rfl rfl ?_
        refine RU.sk rfl rfl rfl ?_; refine RU.rd (V.pickT rfl rfl) ?_; refine RU.nil ?_; refine RX.condT rfl ?_; refine RX.seq ?_; refine RX.region ?_; refine RU.rd (V.as rfl) ?_; refine RU.nil ?_
        refine RX.rt Tryz.func6 (by rfl) (ResOk.tmp rfl (ResOk.nil)) ?_; exact ⟨rfl, by assumption⟩
      · refine RU.rdG rfl rfl (V.mv rfl) ?_; refine RU.rdG rfl rfl (V.len u49 rfl) ?_; refine RU.rdG rfl rfl (V.lss rfl rfl) ?_; refine RU.rd (V.pickF rfl rfl) ?_; refine RU.rd (V.mv rfl) ?_
        refine RU.splitD (fun h3 => ?_) fun h3 => ?_
        · refine RU.sk rfl rfl rfl ?_; refine RU.sk rfl rfl rfl ?_; refine RU.sk rfl rfl rfl ?_; refine RU.rd (V.pickT rfl rfl) ?_; refine RU.nil ?_; refine RX.condT rfl ?_; refine RX.seq ?_; refine RX.region ?_
          refine RU.rd (V.as rfl) ?_; refine RU.nil ?_; refine RX.rt Tryz.func6 (by rfl) (ResOk.tmp rfl (ResOk.nil)) ?_; exact ⟨rfl, by assumption⟩
        · refine RU.rdG rfl rfl (V.mv rfl) ?_; refine RU.rdG rfl rfl (V.len u49 rfl) ?_; refine RU.rdG rfl rfl (V.gtr rfl rfl) ?_; refine RU.rd (V.pickF rfl rfl) ?_; refine RU.nil ?_
          refine RX.condD rfl (fun h4 => ?_) (fun _ => by omega); refine RX.seq ?_; refine RX.region ?_; refine RU.rd (V.as rfl) ?_; refine RU.nil ?_; refine RX.rt Tryz.func6 (by rfl) (ResOk.tmp rfl (ResOk.nil)) ?_
          exact ⟨rfl, by assumption⟩
  have g1 : 1 ≤ l.length ∧ l.length ≤ 3 ∧ 1 ≤ m.length ∧ m.length ≤ 4 := by omega
  clear hg
  obtain ⟨bl, offl, cl, csl, rfl, hbl, axl⟩ := hl.blk (by omega)
  obtain ⟨bm, offm, cm, csm, rfl, hbm, axm⟩ := hm.blk (by omega)
  clear hl hm
  refine calls_of_rx (args := [_, _]) (e := [(0, _), (1, _)]) (n := 200) Tryz.func6 rfl rfl rfl (by kernel_rfl) rfl ?_
  have hC := Ch.refl Nil w
  have uq := True.intro
  refine RX.seq ?_; refine RX.region ?_; refine RU.rd (V.as rfl) ?_; refine RU.nil ?_; refine RX.seq ?_; refine RX.seq ?_; refine RX.region ?_; refine RU.rd (V.mv rfl) ?_; refine RU.rd (V.len u49 rfl) ?_
  refine RU.rd (V.lss rfl rfl) ?_; refine RU.rd (V.mv rfl) ?_; refine RU.splitD (fun _ => by omega) fun h1 => ?_; refine RU.rdG rfl rfl (V.mv rfl) ?_; refine RU.rdG rfl rfl (V.len u49 rfl) ?_
  refine RU.rdG rfl rfl (V.gtr rfl rfl) ?_; refine RU.rd (V.pickF rfl rfl) ?_; refine RU.rd (V.mv rfl) ?_; refine RU.splitD (fun _ => by omega) fun h2 => ?_; refine RU.rdG rfl rfl (V.mv rfl) ?_
  refine RU.rdG rfl rfl (V.len u49 rfl) ?_; refine RU.rdG rfl rfl (V.lss rfl rfl) ?_; refine RU.rd (V.pickF rfl rfl) ?_; refine RU.rd (V.mv rfl) ?_; refine RU.splitD (fun _ => by omega) fun h3 => ?_
  refine RU.rdG rfl rfl (V.mv rfl) ?_; refine RU.rdG rfl rfl (V.len u49 rfl) ?_; refine RU.rdG rfl rfl (V.gtr rfl rfl) ?_; refine RU.rd (V.pickF rfl rfl) ?_; refine RU.nil ?_
  refine RX.condD rfl (fun _ => by omega) fun h4 => ?_; refine RX.skip ?_; refine RX.seq ?_; refine RX.region ?_
  refine RU.lo (L.call fn9 rfl (c9 (fr := []) (w := w) (v := .slice none 0 0) .nil) ?_)
  rintro _ w1 ⟨q1, rfl, gr1, hab1, -, hP1⟩
  have hC1 := hC.trans gr1
  skip
  refine RU.lo (L.call fn9 rfl (c9 (fr := []) (v := .slice none 0 0) .nil) ?_)
  rintro _ w2 ⟨q2, rfl, gr2, hab2, hf2, hP2⟩
  have hlw1 := hP1.lt
  have hq1 := hlw1 q1.g.ab (.inr (.inr (.inr (.inr (.inl rfl)))))
  replace hP1 := hP1.gr gr2
  have hlt1 := hP1.lt
  have hlt2 := hP2.lt
  have hla1 := hlt1 q1.g.ab (.inr (.inr (.inr (.inr (.inl rfl)))))
  have hla2 := hlt2 q2.g.ab (.inr (.inr (.inr (.inr (.inl rfl)))))
  have gr0 : Grow w w2 := gr1.trans gr2
  have hbl2 := hbl.gr gr0
  have hbm2 := hbm.gr gr0
  have z0 := gr0.size
  have z1 := gr1.size
  clear hC hC1 gr1 gr2 hbl hbm
  have hC := Ch.refl Nil w2
  refine RU.rd (V.as rfl) ?_; refine RU.rd (V.as rfl) ?_; refine RU.nil ?_; refine RX.seq ?_; refine RX.seq ?_; refine RX.region ?_; refine RU.rd (V.mv rfl) ?_; refine RU.rd (V.eqNil u22 rfl rfl) ?_
  refine RU.rd (V.mv rfl) ?_; refine RU.rdG rfl rfl (V.mv rfl) ?_; refine RU.rdG rfl rfl (V.eqNil u22 rfl rfl) ?_; refine RU.rd (V.pickF rfl rfl) ?_; refine RU.nil ?_; refine RX.condF rfl ?_; refine RX.skip ?_
  refine RX.seq ?_; refine RX.region ?_; refine RU.rd (V.as rfl) ?_; refine RU.nil ?_; refine RX.seq ?_; refine RX.region ?_; refine RU.rd (V.bld bf26 z26 rfl rfl) ?_; refine RU.rd (V.bld bf26 z26 rfl rfl) ?_
  refine RU.lo (L.al hC z26 fun b3 w3 hb3 le3 hC3 gr3 hz3 hB3 => ?_); have l4_hB3 := hB3.lt; refine RU.lo (L.al hC3 z26 fun b4 w4 hb4 le4 hC4 gr4 hz4 hB4 => ?_); have hB3 := hB3.gr gr4
  refine RU.lo0 (L.stN hC4 sz26 rfl rfl rfl rfl hB3 rfl le3 fun w5 hC5 ch5 hz5 hB3 => ?_); have hB4 := hB4.ch ch5 (by omega); refine RU.lo0 (L.stN hC5 sz26 rfl rfl rfl rfl hB4 rfl le4 fun w6 hC6 ch6 hz6 hB4 => ?_)
  have hB3 := hB3.ch ch6 (by omega); refine RU.nil ?_; refine RX.seq ?_; refine RX.seq ?_; refine RX.region ?_; refine RU.rd (V.as rfl) ?_; refine RU.nil ?_; refine RX.block ?_
  have hN : Nst w2.heap.size w6 b3 b4 (.slice none 0 0) (.slice none 0 0) (.slice none 0 0) ((spendsN l).take 0) [] ((spendsN l).take 0) :=
    ⟨hB3, hB4, .nil, .nil, .nil, by omega, le3, le4, fun b h => (inSl.no h).elim, fun b h => (inSl.no h).elim, fun b h => (inSl.no h).elim⟩
  refine RX.keep [(0, _), (1, _), (5, _), (6, _), (7, _), (8, _), (9, _), (10, _)] ⟨rfl, rfl, rfl, rfl, rfl, rfl, rfl, rfl, trivial⟩ ?_
  refine RX.loop (fun d e w' => ∃ i : Nat, d = l.length - i ∧ i ≤ l.length ∧ ∃ uo ur, e = [(0, .slice (some ⟨bl, offl, none⟩) l.length cl), (1, .slice (some ⟨bm, offm, none⟩) m.length cm), (5, .pointer (some ⟨q1.pb, 0, none⟩)), (6, .pointer (some ⟨q2.pb, 0, none⟩)), (7, ur), (8, .pointer (some ⟨b3, 0, none⟩)), (9, .pointer (some ⟨b4, 0, none⟩)), (10, .int .i64 i)] ∧
    Grow w2 w' ∧ Nst w2.heap.size w' b3 b4 uo (.slice none 0 0) ur ((spendsN l).take i) [] ((spendsN l).take i)) (l.length - 0) ⟨0, rfl, by omega, .slice none 0 0, .slice none 0 0, rfl, hC6, hN⟩ ?_
  have ne34 : b3 ≠ b4 := by omega
  clear hN hB3 hB4 hC hC3 hC4 hC5 hC6 gr3 gr4 ch5 ch6 hz3 hz4 hz5 hz6 hb3 hb4 l4_hB3
  rintro d e w' ⟨i, rfl, hi, uo, ur, rfl, hC, hN⟩ ih
  have hblw := hbl2.gr hC
  obtain ⟨po, no, co, rfl⟩ := hN.oo.isSl
  obtain ⟨pr, nr, cr, rfl⟩ := hN.or.isSl
  refine RX.seq ?_; refine RX.seq ?_; refine RX.region ?_; refine RU.rd (V.mv rfl) ?_; refine RU.rd (V.mv rfl) ?_; refine RU.rd (V.len u49 rfl) ?_; refine RU.rd (V.lss rfl rfl) ?_; refine RU.nil ?_
  refine RX.condD rfl (fun h5 => ?_) fun h5 => ?_
  · have hi' : i < l.length := by omega
    have at1 : ∀ j (_ : j = i), csl[offl + j * 1]? = some (.int .i64 (l.getD i 0)) := by rintro j rfl; exact axl j hi'
    have htk := spendsN_take l hi'
    have ln0 : (rws leafC ((spendsN l).take i)).length = i * 4 := by rw [leafsC_len, List.length_take, spendsN_len, Nat.min_eq_left hi]
    have hbo := hN.ho
    have lb3 := hN.ho.lt
    have lb4 := hN.hi.lt
    refine RX.skip ?_; refine RX.seq ?_; refine RX.block ?_; refine RX.seq ?_; refine RX.region ?_; refine RU.rd (V.mv rfl) ?_; refine RU.rd (V.add rfl rfl (by omega)) ?_; refine RU.rd (V.mv rfl) ?_
    refine RU.rd (V.mv rfl) ?_; refine RU.rd (V.idx e49 rfl rfl (by omega)) ?_; refine RU.rd (V.ldR s3 rfl (cur hblw) (at1 _ (by omega))) ?_; refine RU.rd (V.and (m := 3) rfl (by decide) rfl rfl) ?_
    refine RU.rd (V.bld bf26 z26 rfl rfl) ?_; have l7_hblw := hblw.lt; have l7_hbo := hbo.lt; refine RU.lo (L.al hC z26 fun b7 w7 hb7 le7 hC7 gr7 hz7 hB7 => ?_); have hblw := hblw.gr gr7; have hbo := hbo.gr gr7
    refine RU.lo0 (L.stN hC7 sz26 rfl rfl rfl rfl hB7 rfl le7 fun w8 hC8 ch8 hz8 hB7 => ?_); have hblw := hblw.ch ch8 (by omega); have hbo := hbo.ch ch8 (by omega); refine RU.nil ?_; refine RX.seq ?_; refine RX.region ?_
    refine RU.rd (V.fld0 f26_3 rfl) ?_; refine RU.rd (V.ld s24 rfl (cur hbo) rfl) ?_; refine RU.rd (V.ldA a26 rfl (cur hB7) (vs := [_, _, _, _]) rfl rfl) ?_; have l9_hB7 := hB7.lt; have l9_hblw := hblw.lt
    have l9_hbo := hbo.lt; refine RU.lo (L.bsl hC8 e24 z26 rfl rfl rfl rfl fun b9 w9 hb9 le9 hC9 gr9 hz9 hB9 => ?_); have hB7 := hB7.gr gr9; have hblw := hblw.gr gr9; have hbo := hbo.gr gr9
    have G8 : Grow w' w8 := gr7.trans' ch8 (by rintro b hb rfl; omega)
    have hN9 := hN.gr (G8.trans gr9)
    have hL := hN.oo.lt
    have hLr := hN.or.lt
    clear hblw hbo
    refine RU.lo (L.app hC9 e24 u24 z26 rfl by26 rfl rfl hN9.oo (show Rd w9 4 (.slice (some ⟨b9, 0, none⟩) 1 1) 1 (leafC (2, 1 + (i : Int), l.getD i 0 % 8)) from .some (n := 1) hB9 (Nat.le_refl _) rfl) rfl rfl (by rw [ln0]; simp [leafC]; omega) fun uo' w10 hC10 ch10 hO10 hin10 => ?_)
    obtain ⟨po', no', co', rfl⟩ := hO10.isSl
    have eo : rws leafC ((spendsN l).take i) ++ leafC (2, 1 + (i : Int), l.getD i 0 % 8) = rws leafC ((spendsN l).take i ++ [(2, 1 + (i : Int), l.getD i 0 % 8)]) := by rw [rws_append]; simp [rws]
    rw [eo] at hO10
    have hbo := hN9.ho.ch ch10 (fun h => by have := hN9.d1 _ h; exact this.1 rfl)
    have hlf : Blk w10 b7 (leafC (2, 1 + (i : Int), l.getD i 0 % 8)) 26 := hB7.ch ch10 (fun h => by have := (hL _ h).2; omega)
    clear hB7 hB9
    refine RU.rd (V.fld0 f26_3 rfl) ?_; refine RU.lo0 (L.stN hC10 sz24 rfl rfl rfl rfl hbo rfl le3 fun w11 hC11 ch11 hz11 hbo => ?_); have hlf := hlf.ch ch11 (by omega); refine RU.nil ?_; refine RX.region ?_
    refine RU.rd (V.mv rfl) ?_; refine RU.rd (V.ldA a26 rfl (cur hlf) (vs := [_, _, _, _]) rfl rfl) ?_; have l12_hbo := hbo.lt; have l12_hlf := hlf.lt
    refine RU.lo (L.bsl hC11 e24 z26 rfl rfl rfl rfl fun b12 w12 hb12 le12 hC12 gr12 hz12 hB12 => ?_); have hbo := hbo.gr gr12; have hlf := hlf.gr gr12
    have hN12 := hN9.pushO ch10 hO10 hin10 (ch11.trans (.of_grow gr12)) hbo
    refine RU.lo (L.app hC12 e24 u24 z26 rfl by26 rfl rfl hN12.or (show Rd w12 4 (.slice (some ⟨b12, 0, none⟩) 1 1) 1 (leafC (2, 1 + (i : Int), l.getD i 0 % 8)) from .some (n := 1) hB12 (Nat.le_refl _) rfl) rfl rfl (by rw [ln0]; simp [leafC]; omega) fun ur' w13 hC13 ch13 hO13 hin13 => ?_)
    rw [eo] at hO13
    have hN13 := hN12.pushR ch13 hO13 hin13
    rw [← htk] at hN13
    refine RU.rd (V.as rfl) ?_; refine RU.nil ?_; refine RX.inBlock ?_; refine RX.region ?_; refine RU.rd (V.mv rfl) ?_; refine RU.rd (V.add rfl rfl (by omega)) ?_; refine RU.rd (V.as rfl) ?_; refine RU.nil ?_
    refine RX.keep [(0, _), (1, _), (5, _), (6, _), (7, _), (8, _), (9, _), (10, _)] ⟨rfl, rfl, rfl, rfl, rfl, rfl, rfl, rfl, trivial⟩ ?_
    exact ih (l.length - (i + 1)) (by omega) _ _ ⟨i + 1, rfl, by omega, _, _, rfl, hC13, hN13⟩
  · have : i = l.length := by omega
    subst this
    clear ih
    rw [List.take_of_length_le (by rw [spendsN_len]; omega)] at hN
    refine RX.exit rfl ?_; refine RX.seq ?_; refine RX.seq ?_; refine RX.region ?_; refine RU.rd (V.as rfl) ?_; refine RU.nil ?_; refine RX.block ?_
    have hN0 : Nst w2.heap.size w' b3 b4 (.slice po no co) (.slice none 0 0) (.slice pr nr cr) (spendsN l) ((remarksN m).take 0) (spendsN l ++ (remarksN m).take 0) := by
      rw [List.take_zero, List.append_nil]; exact hN
    clear hN
    refine RX.keep [(0, _), (1, _), (5, _), (6, _), (7, _), (8, _), (9, _), (12, _)] ⟨rfl, rfl, rfl, rfl, rfl, rfl, rfl, rfl, trivial⟩ ?_
    refine RX.loop (fun d e w' => ∃ i : Nat, d = m.length - i ∧ i ≤ m.length ∧ ∃ ui ur, e = [(0, .slice (some ⟨bl, offl, none⟩) l.length cl), (1, .slice (some ⟨bm, offm, none⟩) m.length cm), (5, .pointer (some ⟨q1.pb, 0, none⟩)), (6, .pointer (some ⟨q2.pb, 0, none⟩)), (7, ur), (8, .pointer (some ⟨b3, 0, none⟩)), (9, .pointer (some ⟨b4, 0, none⟩)), (12, .int .i64 i)] ∧
      Grow w2 w' ∧ Nst w2.heap.size w' b3 b4 (.slice po no co) ui ur (spendsN l) ((remarksN m).take i) (spendsN l ++ (remarksN m).take i)) (m.length - 0) ⟨0, rfl, by omega, .slice none 0 0, .slice pr nr cr, rfl, hC, hN0⟩ ?_
    clear hN0 hC hblw
    rintro d e w' ⟨i, rfl, hi2, ui, ur, rfl, hC, hN⟩ ih
    have hblw := hbm2.gr hC
    obtain ⟨pi, ni, ci, rfl⟩ := hN.oi.isSl
    obtain ⟨pr', nr', cr', rfl⟩ := hN.or.isSl
    refine RX.seq ?_; refine RX.seq ?_; refine RX.region ?_; refine RU.rd (V.mv rfl) ?_; refine RU.rd (V.mv rfl) ?_; refine RU.rd (V.len u49 rfl) ?_; refine RU.rd (V.lss rfl rfl) ?_; refine RU.nil ?_
    refine RX.condD rfl (fun h6 => ?_) fun h6 => ?_
    · have hi' : i < m.length := by omega
      have at1 : ∀ j (_ : j = i), csm[offm + j * 1]? = some (.int .i64 (m.getD i 0)) := by rintro j rfl; exact axm j hi'
      have htk := remarksN_take m hi'
      have ln0 : (rws leafC ((remarksN m).take i)).length = i * 4 := by rw [leafsC_len, List.length_take, remarksN_len, Nat.min_eq_left hi2]
      have lnr : (rws leafC (spendsN l ++ (remarksN m).take i)).length = (l.length + i) * 4 := by rw [leafsC_len, List.length_append, List.length_take, spendsN_len, remarksN_len, Nat.min_eq_left hi2]
      have hbo := hN.hi
      have lb3 := hN.ho.lt
      have lb4 := hN.hi.lt
      refine RX.skip ?_; refine RX.seq ?_; refine RX.block ?_; refine RX.seq ?_; refine RX.region ?_; refine RU.rd (V.mv rfl) ?_; refine RU.rd (V.mv rfl) ?_; refine RU.rd (V.idx e49 rfl rfl (by omega)) ?_
      refine RU.rd (V.ldR s3 rfl (cur hblw) (at1 _ (by omega))) ?_; refine RU.rd (V.and (m := 3) rfl (by decide) rfl rfl) ?_; refine RU.rd (V.bld bf26 z26 rfl rfl) ?_; have l7_hblw := hblw.lt; have l7_hbo := hbo.lt
      refine RU.lo (L.al hC z26 fun b7 w7 hb7 le7 hC7 gr7 hz7 hB7 => ?_); have hblw := hblw.gr gr7; have hbo := hbo.gr gr7; refine RU.lo0 (L.stN hC7 sz26 rfl rfl rfl rfl hB7 rfl le7 fun w8 hC8 ch8 hz8 hB7 => ?_)
      have hblw := hblw.ch ch8 (by omega); have hbo := hbo.ch ch8 (by omega); refine RU.nil ?_; refine RX.seq ?_; refine RX.region ?_; refine RU.rd (V.fld0 f26_3 rfl) ?_; refine RU.rd (V.ld s24 rfl (cur hbo) rfl) ?_
      refine RU.rd (V.ldA a26 rfl (cur hB7) (vs := [_, _, _, _]) rfl rfl) ?_; have l9_hB7 := hB7.lt; have l9_hblw := hblw.lt; have l9_hbo := hbo.lt
      refine RU.lo (L.bsl hC8 e24 z26 rfl rfl rfl rfl fun b9 w9 hb9 le9 hC9 gr9 hz9 hB9 => ?_); have hB7 := hB7.gr gr9; have hblw := hblw.gr gr9; have hbo := hbo.gr gr9
      have G8 : Grow w' w8 := gr7.trans' ch8 (by rintro b hb rfl; omega)
      have hN9 := hN.gr (G8.trans gr9)
      have hL := hN.oi.lt
      have hLr := hN.or.lt
      clear hblw hbo
      refine RU.lo (L.app hC9 e24 u24 z26 rfl by26 rfl rfl hN9.oi (show Rd w9 4 (.slice (some ⟨b9, 0, none⟩) 1 1) 1 (leafC (1, 0, m.getD i 0 % 8)) from .some (n := 1) hB9 (Nat.le_refl _) rfl) rfl rfl (by rw [ln0]; simp [leafC]; omega) fun uo' w10 hC10 ch10 hO10 hin10 => ?_)
      obtain ⟨po', no', co', rfl⟩ := hO10.isSl
      have eo : rws leafC ((remarksN m).take i) ++ leafC (1, 0, m.getD i 0 % 8) = rws leafC ((remarksN m).take i ++ [(1, 0, m.getD i 0 % 8)]) := by rw [rws_append]; simp [rws]
      rw [eo] at hO10
      have hbo := hN9.hi.ch ch10 (fun h => by have := hN9.d2 _ h; exact this.2.1 rfl)
      have hlf : Blk w10 b7 (leafC (1, 0, m.getD i 0 % 8)) 26 := hB7.ch ch10 (fun h => by have := (hL _ h).2; omega)
      clear hB7 hB9
      refine RU.rd (V.fld0 f26_3 rfl) ?_; refine RU.lo0 (L.stN hC10 sz24 rfl rfl rfl rfl hbo rfl le4 fun w11 hC11 ch11 hz11 hbo => ?_); have hlf := hlf.ch ch11 (by omega); refine RU.nil ?_; refine RX.region ?_
      refine RU.rd (V.mv rfl) ?_; refine RU.rd (V.ldA a26 rfl (cur hlf) (vs := [_, _, _, _]) rfl rfl) ?_; have l12_hbo := hbo.lt; have l12_hlf := hlf.lt
      refine RU.lo (L.bsl hC11 e24 z26 rfl rfl rfl rfl fun b12 w12 hb12 le12 hC12 gr12 hz12 hB12 => ?_); have hbo := hbo.gr gr12; have hlf := hlf.gr gr12
      have hN12 := hN9.pushI ch10 hO10 hin10 (ch11.trans (.of_grow gr12)) hbo
      refine RU.lo (L.app hC12 e24 u24 z26 rfl by26 rfl rfl hN12.or (show Rd w12 4 (.slice (some ⟨b12, 0, none⟩) 1 1) 1 (leafC (1, 0, m.getD i 0 % 8)) from .some (n := 1) hB12 (Nat.le_refl _) rfl) rfl rfl (by rw [lnr]; simp [leafC]; omega) fun ur' w13 hC13 ch13 hO13 hin13 => ?_)
      have eo2 : rws leafC (spendsN l ++ (remarksN m).take i) ++ leafC (1, 0, m.getD i 0 % 8) = rws leafC (spendsN l ++ (remarksN m).take i ++ [(1, 0, m.getD i 0 % 8)]) := by rw [rws_append _ [_]]; simp [rws]
      rw [eo2] at hO13
      have hN13 := hN12.pushR ch13 hO13 hin13
      rw [List.append_assoc, ← htk] at hN13
      refine RU.rd (V.as rfl) ?_; refine RU.nil ?_; refine RX.inBlock ?_; refine RX.region ?_; refine RU.rd (V.mv rfl) ?_; refine RU.rd (V.add rfl rfl (by omega)) ?_; refine RU.rd (V.as rfl) ?_; refine RU.nil ?_
      refine RX.keep [(0, _), (1, _), (5, _), (6, _), (7, _), (8, _), (9, _), (12, _)] ⟨rfl, rfl, rfl, rfl, rfl, rfl, rfl, rfl, trivial⟩ ?_
      exact ih (m.length - (i + 1)) (by omega) _ _ ⟨i + 1, rfl, by omega, _, _, rfl, hC13, hN13⟩
    · have : i = m.length := by omega
      subst this
      clear ih
      rw [List.take_of_length_le (by rw [remarksN_len]; omega)] at hN
      obtain ⟨bi2, ni2, ci2, spi2, e1, lei2, hni2, hBi2, -⟩ := Own.opn hN.oi (by rw [leafsC_len, remarksN_len]; omega)
      cases e1
      obtain ⟨br2, nr2, cr2, spr2, e2, ler2, hnr2, hBr2, -⟩ := Own.opn hN.or (by rw [leafsC_len, List.length_append, spendsN_len]; omega)
      cases e2
      have hni : ni = m.length := by rw [leafsC_len, remarksN_len] at hni2; omega
      have hnr : nr' = l.length + m.length := by rw [leafsC_len, List.length_append, remarksN_len, spendsN_len] at hnr2; omega
      subst hni hnr
      have nbi := hN.d2 bi2 ⟨_, _, _, rfl⟩
      have nbr := hN.d3 br2 ⟨_, _, _, rfl⟩
      have nbi1 := nbi.1
      have nbi2 := nbi.2.1
      have nbr1 := nbr.1
      have nbr2 := nbr.2
      have hbo := hN.ho
      have hbi := hN.hi
      refine RX.exit rfl ?_; refine RX.seq ?_; refine RX.region ?_; refine RU.rd (V.fld0 f26_3 rfl) ?_; refine RU.rd (V.ld s24 rfl (cur hbo) rfl) ?_; refine RU.rd (V.ldA a26 rfl (cur hbi) (vs := [_, _, _, _]) rfl rfl) ?_
      have l7_hblw := hblw.lt; have l7_hBi2 := hBi2.lt; have l7_hBr2 := hBr2.lt; have l7_hbo := hbo.lt; have l7_hbi := hbi.lt; refine RU.lo (L.bsl hC e24 z26 rfl rfl rfl rfl fun b7 w7 hb7 le7 hC7 gr7 hz7 hB7 => ?_)
      have hblw := hblw.gr gr7; have hBi2 := hBi2.gr gr7; have hBr2 := hBr2.gr gr7; have hbo := hbo.gr gr7; have hbi := hbi.gr gr7
      have hN7 := hN.gr gr7
      refine RU.lo (L.app hC7 e24 u24 z26 rfl by26 rfl rfl hN7.oo (show Rd w7 4 (.slice (some ⟨b7, 0, none⟩) 1 1) 1 [.int .i64 5, .int .i64 0, .int .i64 0, .slice (some ⟨bi2, 0, none⟩) m.length ci] from .some (n := 1) hB7 (Nat.le_refl _) rfl) rfl rfl (by rw [leafsC_len, spendsN_len]; simp; omega) fun uo' w8 hC8 ch8 hO8 hin8 => ?_)
      obtain ⟨bo8, n8, c8, sp8, rfl, leo8, hn8, hB8, -⟩ := Own.opn hO8 (by simp)
      have hn8 : n8 = (spendsN l).length + 1 := by rw [List.length_append, leafsC_len] at hn8; simp at hn8; omega
      subst hn8
      have hbo8 := hN7.ho.ch ch8 (fun h => (hN7.d1 _ h).1 rfl)
      have hBi8 := hBi2.ch ch8 (fun h => (hN7.d1 _ h).2.2.1 ⟨_, _, _, rfl⟩)
      have hBr8 := hBr2.ch ch8 (fun h => (hN7.d1 _ h).2.2.2 ⟨_, _, _, rfl⟩)
      have hin := hin8 bo8 ⟨_, _, _, rfl⟩
      have nbo : bo8 ≠ b3 := by
        rintro rfl
        rcases hin with h | h
        · exact (hN7.d1 _ h).1 rfl
        · have := hN7.ho.lt; omega
      have hp1 := hP1.hp.gr hC8
      have lp1 := hP1.hp.lt
      clear hbo hbi hBi2 hBr2 hB7 hblw
      refine RU.rd (V.fld0 f26_3 rfl) ?_; refine RU.lo0 (L.stN hC8 sz24 rfl rfl rfl rfl hbo8 rfl le3 fun w9 hC9 ch9 hz9 hbo8 => ?_); have hB8 := hB8.ch ch9 (by omega); have hBi8 := hBi8.ch ch9 (by omega)
      have hBr8 := hBr8.ch ch9 (by omega); have hp1 := hp1.ch ch9 (by omega); refine RU.nil ?_; refine RX.seq ?_
      refine RX.draw (Ch Nil w9) [3, 7, 11, 12] [(0, true), (1, true), (2, true), (3, true), (4, true), (5, true), (6, true), (7, true), (8, true), (9, true), (10, true), (11, true), (12, true), (13, false), (14, true), (15, true), (16, true), (17, true), (18, true)] mixed (by kernel_rfl) fun w10 gr10 hz10 => ?_
      have hC10 := hC9.trans (Ch.of_grow gr10); have hbo8d10 := hbo8.gr gr10; have hB8d10 := hB8.gr gr10; have hBi8d10 := hBi8.gr gr10; have hBr8d10 := hBr8.gr gr10; have hp1d10 := hp1.gr gr10; refine RD.rz rfl (V.mv rfl) ?_
      refine RD.rz rfl (V.nck rfl) ?_; refine RD.rz rfl (V.fld0 f38_0 rfl) ?_; refine RD.rd rfl rfl gr10 (V.ld s31 rfl (fun _ hS => hp1.gr hS) rfl) ?_; refine RD.rz rfl (V.mv rfl) ?_; refine RD.rz rfl (V.nck rfl) ?_
      refine RD.rz rfl (V.fld0 f38_1 rfl) ?_; refine RD.rd rfl rfl gr10 (V.ld s32 rfl (fun _ hS => hp1.gr hS) rfl) ?_; refine RD.rz rfl (V.mv rfl) ?_; refine RD.rz rfl (V.nck rfl) ?_; refine RD.rz rfl (V.fld0 f38_2 rfl) ?_
      refine RD.rd rfl rfl gr10 (V.ld s33 rfl (fun _ hS => hp1.gr hS) rfl) ?_; refine RD.rd rfl rfl gr10 (V.ldA a26 rfl (fun _ hS => hbo8.gr hS) (vs := [_, _, _, _]) rfl rfl) ?_
      have hg := g1
      obtain ⟨D', evs, hev, ea, eb⟩ := nests_law l m (by omega)
      have hir := calR_leaves (B := (· ≠ q1.g.ab)) (c := ci) (show bi2 ≠ q1.g.ab by omega) hBi8d10 (by rw [remarksN_len]; omega)
      rw [remarksN_len] at hir
      rw [List.append_assoc] at hB8d10
      have hcr := calR_more (B := (· ≠ q1.g.ab)) (c := c8) (show bo8 ≠ q1.g.ab by omega) hB8d10 hir rfl
      have hcl := c10 (of := 1) (now := 3) (hP1.gr hC10) (startLed_ok []) hcr
        (by
          simp only [Cal.plain, List.length_append, List.length_cons, List.length_nil]
          exact .inr (.inr ⟨trivial, by omega, plainL_append (plain_leaf fun x hx => .inr (spendsN_mem hx (by omega)).1) ⟨by simp only [Cal.plain, List.length_map, remarksN_len]; exact .inr (.inr ⟨trivial, by omega, plain_leaf fun x hx => .inl (remarksN_mem hx).1⟩), trivial⟩⟩))
        (by
          have e2 := is_leaf (deep := 0 + 1 + 1) (l := remarksN m) (fun x hx => leafOk_remark hx) []
          rw [List.append_nil] at e2
          have e3 : Cal.isL (0 + 1) ((spendsN l).map leafOf ++ [Cal.mk 5 0 0 ((remarksN m).map leafOf)]) = true := by
            rw [is_leaf (fun x hx => leafOk_spend hx (by omega))]
            simp only [Cal.isL, Cal.isB, e2, List.length_map, remarksN_len]
            simp; omega
          simp only [Cal.isB, e3, List.length_append, List.length_map, spendsN_len, List.length_cons, List.length_nil]
          simp; omega)
        (by simp only [Cal.sz, szL_append, sz_leaf, Cal.szL, spendsN_len, remarksN_len]; omega) (by decide)
      rw [does_batch, cap1, ea] at hcl
      refine RD.lf rfl (by kernel_rfl) (L.call fn10 rfl hcl ?_)
      rintro _ w11 ⟨s, rfl, hO11, ch11, hP11⟩
      have gr20 : Grow w2 w10 := hC10
      have gw11 : Grow w w11 := (gr0.trans gr20).trans' ch11 (by rintro b hb rfl; omega)
      have hP2b := (hP2.gr gr20).ch ch11 (by rintro b hb rfl; have := hf2 _ hb; omega)
      have hBr11 : Blk w11 br2 (rws leafC (spendsN l ++ remarksN m) ++ spr2) 26 := hBr8d10.ch ch11 (by omega)
      have z11 := gr20.size
      have y11 := ch11.size
      clear hC7 hC8 hC9 hC10 hbo8 hB8 hBi8 hBr8 hp1 hbo8d10 hB8d10 hBi8d10 hBr8d10 hp1d10
      have hC11 := Ch.refl (· = q2.g.ab) w11
      obtain ⟨bs, ns, cs, sps, rfl, les, hns, hBs, -⟩ := Own.opn hO11 (by dsimp only; rw [evsC_len]; omega)
      have hns : ns = evs.length := by dsimp only at hns; rw [evsC_len] at hns; omega
      subst hns
      dsimp only at hBs hP11
      refine RD.rz rfl (V.mv rfl) ?_; refine RD.rz rfl (V.ext rfl rfl) ?_; refine RD.rz rfl (V.ext rfl rfl) ?_; refine RD.rz rfl (V.as rfl) ?_; refine RD.rz rfl (V.as rfl) ?_; refine RD.nil ?_; refine RX.seq ?_
      refine RX.region ?_; refine RU.rd (V.as rfl) ?_; refine RU.nil ?_; refine RX.seq ?_; refine RX.seq ?_; refine RX.region ?_; refine RU.rd (V.as rfl) ?_; refine RU.nil ?_; refine RX.block ?_
      obtain ⟨row, hrow⟩ : ∃ row, spendsN l ++ remarksN m = row := ⟨_, rfl⟩
      have hrl : row.length = l.length + m.length := by rw [← hrow, List.length_append, spendsN_len, remarksN_len]
      have hrm : ∀ x ∈ row, leafOk x ∧ (x.1 = 1 ∨ x.1 = 2) := by
        intro x hx
        rw [← hrow] at hx
        rcases List.mem_append.1 hx with h | h
        · exact ⟨leafOk_spend h (by omega), .inr (spendsN_mem h (by omega)).1⟩
        · exact ⟨leafOk_remark h, .inl (remarksN_mem h).1⟩
      rw [hrow] at hBr11 eb
      clear hir hcr hcl hrow ea hN hN7 hO8 hin8 hn8 hnr2 hni2 hO11 hns
      have hla3 : q2.g.ab < w11.heap.size := by omega
      have hq2l := hP2b.lt
      refine RX.keep [(5, _), (6, _), (7, _), (14, _), (15, _), (16, _), (17, _)] ⟨rfl, rfl, rfl, rfl, rfl, rfl, rfl, trivial⟩ ?_
      refine RX.loop (fun d e w' => ∃ i : Nat, d = row.length - i ∧ i ≤ row.length ∧ ∃ ub Di acc, e = [(5, .pointer (some ⟨q1.pb, 0, none⟩)), (6, .pointer (some ⟨q2.pb, 0, none⟩)), (7, .slice (some ⟨br2, 0, none⟩) (l.length + m.length) cr'), (14, .slice (some ⟨bs, 0, none⟩) evs.length cs), (15, .int .i64 0), (16, ub), (17, .int .i64 i)] ∧
        Ch (· = q2.g.ab) w11 w' ∧ P0 w' q2 Di ∧ Di.Ok ∧ Own w11.heap.size w' 3 52 ub (evsC acc) ∧ behind acc (Cal.doesL 1 50 ((row.drop i).map leafOf) Di) = (D', evs, 0) ∧ acc.length ≤ i) (row.length - 0) ⟨0, rfl, by omega, .slice none 0 0, startLed [], [], rfl, hC11, hP2b, startLed_ok [], .nil, by simp [behind, eb], by simp⟩ ?_
      clear hC11 hP2b
      rintro d e w' ⟨i, rfl, hi3, ub, Di, acc, rfl, hC, hP, hDo, hO, hinv, hacc⟩ ih
      have hBrw := hBr11.ch hC (by omega)
      have hBsw := hBs.ch hC (by omega)
      have hp2 := hP.hp
      obtain ⟨pb, nb, cb, rfl⟩ := hO.isSl
      refine RX.seq ?_; refine RX.seq ?_; refine RX.region ?_; refine RU.rd (V.mv rfl) ?_; refine RU.rd (V.mv rfl) ?_; refine RU.rd (V.len u24 rfl) ?_; refine RU.rd (V.lss rfl rfl) ?_; refine RU.nil ?_
      refine RX.condD rfl (fun h7 => ?_) fun h7 => ?_
      · have hi' : i < row.length := by omega
        have hd : row.drop i = row[i] :: row.drop (i + 1) := List.drop_eq_getElem_cons hi'
        have hm1 := hrm row[i] (List.getElem_mem hi')
        rw [hd, List.map_cons] at hinv
        have he0 : ((leafOf row[i]).does 1 50 Di).2.2 = 0 := by
          by_cases he : ((leafOf row[i]).does 1 50 Di).2.2 = 0
          · exact he
          · rw [behind_stop he] at hinv
            have := congrArg (·.2.2) hinv
            simp only [behind] at this
            exact this
        rw [behind_cons he0] at hinv
        have hg2 := Cal.does_ok 1 50 (leafOf row[i]) Di hDo hP.hl.hl
        have hsz : (leafOf row[i]).sz = 1 := by simp [leafOf, Cal.sz, Cal.szL]
        have at1 : ∀ j (_ : j = i), ((rws leafC row ++ spr2).drop (0 + j * 4)).take 4 = leafC row[i] := by
          rintro j rfl; rw [Nat.zero_add]; exact rws_at leafC_length spr2 row j hi'
        refine RX.skip ?_; refine RX.seq ?_; refine RX.block ?_; refine RX.seq ?_
        refine RX.draw (Ch Nil w') [3, 7, 11, 15] [(0, true), (1, true), (2, true), (3, true), (4, true), (5, true), (6, true), (7, true), (8, true), (9, true), (10, true), (11, true), (12, true), (13, true), (14, true), (15, true), (16, false), (17, true), (18, true), (19, true), (20, true), (21, true)] mixed (by kernel_rfl) fun w12 gr12 hz12 => ?_
        have hC12 := hC.trans (Ch.of_grow gr12); have hBrwd12 := hBrw.gr gr12; have hBswd12 := hBsw.gr gr12; have hp2d12 := hp2.gr gr12; refine RD.rz rfl (V.mv rfl) ?_; refine RD.rz rfl (V.nck rfl) ?_
        refine RD.rz rfl (V.fld0 f38_0 rfl) ?_; refine RD.rd rfl rfl gr12 (V.ld s31 rfl (fun _ hS => hp2.gr hS) rfl) ?_; refine RD.rz rfl (V.mv rfl) ?_; refine RD.rz rfl (V.nck rfl) ?_; refine RD.rz rfl (V.fld0 f38_1 rfl) ?_
        refine RD.rd rfl rfl gr12 (V.ld s32 rfl (fun _ hS => hp2.gr hS) rfl) ?_; refine RD.rz rfl (V.mv rfl) ?_; refine RD.rz rfl (V.nck rfl) ?_; refine RD.rz rfl (V.fld0 f38_2 rfl) ?_
        refine RD.rd rfl rfl gr12 (V.ld s33 rfl (fun _ hS => hp2.gr hS) rfl) ?_; refine RD.rz rfl (V.mv rfl) ?_; refine RD.rz rfl (V.mv rfl) ?_; refine RD.rz rfl (V.idx e24 rfl rfl (by omega)) ?_
        refine RD.rd rfl rfl gr12 (V.ldA a26 rfl (fun _ hS => hBrw.gr hS) rfl (at1 _ (by omega))) ?_
        have hP12 := hP.gr gr12
        have hcl := c10 (q := q2) (of := 1) (now := 3) hP12 hDo (show CalR _ _ (leafOf row[i]) (leafC row[i]) from CalR.nil) (by unfold leafOf Cal.plain; have := hm1.2; omega) (is_leaf1 hm1.1) (by rw [hsz]; decide) (by decide)
        rw [cap1] at hcl
        clear hp2 hBrw hBsw hp2d12 hBrwd12 hBswd12
        refine RD.lf rfl (by kernel_rfl) (L.call fn10 rfl hcl ?_)
        rintro _ w13 ⟨s2, rfl, hO13, ch13, hP13⟩
        have hC13 := hC12.trans ch13
        obtain ⟨ns2, hR2⟩ := hO13.rd
        have hO12 := (hO.gr gr12).ch ch13 (by rintro b hx rfl; have := (hO.lt _ hx).1; omega)
        refine RD.rz rfl (V.mv rfl) ?_; refine RD.rz rfl (V.ext rfl rfl) ?_; refine RD.rz rfl (V.ext rfl rfl) ?_; refine RD.rz rfl (V.as rfl) ?_; refine RD.rz rfl (V.as rfl) ?_; refine RD.nil ?_; refine RX.seq ?_
        refine RX.seq ?_; refine RX.region ?_; refine RU.rd (V.mv rfl) ?_; refine RU.rd (V.neq rfl rfl) ?_; refine RU.nil ?_; refine RX.condD rfl (fun _ => by omega) fun h8 => ?_; refine RX.skip ?_; refine RX.region ?_
        refine RU.rd (V.mv rfl) ?_; refine RU.rd (V.mv rfl) ?_
        have ln1 := evsC_len acc
        have ln2 := evsC_len ((leafOf row[i]).does 1 50 Di).2.1
        refine RU.lo (L.app hC13 e27 u27 z52 rfl by52 rfl rfl hO12 hR2 rfl (evsC_one _) (by omega) fun ub' w14 hC14 ch14 hO14 hin14 => ?_)
        have e5 : evsC acc ++ evsC ((leafOf row[i]).does 1 50 Di).2.1 = evsC (acc ++ ((leafOf row[i]).does 1 50 Di).2.1) := (rws_append _ _).symm
        rw [e5] at hO14
        have hl11 := fun b hx => (hO12.lt b hx).1
        have hP14 := hP13.ch ch14 (fun b hx hy => by have := hl11 b hy; have := hq2l b hx; omega)
        refine RU.rd (V.as rfl) ?_; refine RU.nil ?_; refine RX.inBlock ?_; refine RX.region ?_; refine RU.rd (V.mv rfl) ?_; refine RU.rd (V.add rfl rfl (by omega)) ?_; refine RU.rd (V.as rfl) ?_; refine RU.nil ?_
        refine RX.keep [(5, _), (6, _), (7, _), (14, _), (15, _), (16, _), (17, _)] ⟨rfl, rfl, rfl, rfl, rfl, rfl, rfl, trivial⟩ ?_
        refine ih (row.length - (i + 1)) (by omega) _ _ ⟨i + 1, rfl, by omega, _, _, _, rfl, hC14, hP14, hg2.1, hO14, hinv, ?_⟩
        rw [List.length_append]; omega
      · have : i = row.length := by omega
        subst this
        clear ih
        rw [List.drop_length] at hinv
        simp only [behind, Cal.doesL, List.map_nil, List.append_nil] at hinv
        cases hinv
        obtain ⟨bu, nu, cu, spu, e6, leu, hnu, hBu, -⟩ := Own.opn hO (by rw [evsC_len]; omega)
        cases e6
        have hnu : nb = evs.length := by rw [evsC_len] at hnu; omega
        subst hnu
        clear hBrw hp2
        have hp1 := hP11.hp.ch hC (by have := hlw1 _ (.inl rfl); omega)
        have hP1e := hP11.ch hC (by rintro b hx rfl; have := hlw1 _ hx; omega)
        have gwe : Grow w w' := gw11.trans' hC (by rintro b hb rfl; omega)
        have hL1 := hP1e.hl
        have hL2 := hP.hl
        have hp2 := hP.hp
        clear hC
        have hC := gwe
        refine RX.exit rfl ?_; refine RX.seq ?_; refine RX.seq ?_; refine RX.region ?_; refine RU.rd (V.mv rfl) ?_; refine RU.rd (V.neq rfl rfl) ?_; refine RU.rd (V.mv rfl) ?_; refine RU.splitD (fun _ => by omega) fun h8 => ?_
        refine RU.rdG rfl rfl (V.mv rfl) ?_; refine RU.rdG rfl rfl (V.len u27 rfl) ?_; refine RU.rdG rfl rfl (V.mv rfl) ?_; refine RU.rdG rfl rfl (V.len u27 rfl) ?_; refine RU.rdG rfl rfl (V.neq rfl rfl) ?_
        refine RU.rd (V.pickF rfl rfl) ?_; refine RU.nil ?_; refine RX.condD rfl (fun _ => by omega) fun h9 => ?_; refine RX.skip ?_; refine RX.seq ?_; refine RX.seq ?_; refine RX.region ?_; refine RU.rd (V.as rfl) ?_
        refine RU.nil ?_; refine RX.block ?_
        clear h8 h9
        refine RX.keep [(5, _), (6, _), (14, _), (16, _), (20, _)] ⟨rfl, rfl, rfl, rfl, rfl, trivial⟩ ?_
        refine RX.loop (fun d e w3 => ∃ i : Nat, d = evs.length - i ∧ i ≤ evs.length ∧ e = [(5, .pointer (some ⟨q1.pb, 0, none⟩)), (6, .pointer (some ⟨q2.pb, 0, none⟩)), (14, .slice (some ⟨bs, 0, none⟩) evs.length cs), (16, .slice (some ⟨bu, 0, none⟩) evs.length cb), (20, .int .i64 i)] ∧ Grow w' w3) (evs.length - 0) ⟨0, rfl, by omega, rfl, Ch.refl _ _⟩ ?_
        clear hC
        rintro d e w3 ⟨i, rfl, hi4, rfl, gw3⟩ ih
        have hC := gwe.trans gw3
        have hBs3 := hBsw.gr gw3
        have hBu3 := hBu.gr gw3
        have hp13 := hp1.gr gw3
        have hp23 := hp2.gr gw3
        have hL13 := hL1.gr gw3
        have hL23 := hL2.gr gw3
        clear hBsw hBu hp1 hp2 hL1 hL2
        have z3 := hC.size
        refine RX.seq ?_; refine RX.seq ?_; refine RX.region ?_; refine RU.rd (V.mv rfl) ?_; refine RU.rd (V.mv rfl) ?_; refine RU.rd (V.len u27 rfl) ?_; refine RU.rd (V.lss rfl rfl) ?_; refine RU.nil ?_
        refine RX.condD rfl (fun h8 => ?_) fun h8 => ?_
        · have hi' : i < evs.length := by omega
          have at1 : ∀ j (_ : j = i), ((evsC evs ++ sps).drop (0 + j * 3)).take 3 = evC evs[i] := by rintro j rfl; rw [Nat.zero_add]; exact rws_at evC_length sps evs j hi'
          have at2 : ∀ j (_ : j = i), ((evsC evs ++ spu).drop (0 + j * 3)).take 3 = evC evs[i] := by rintro j rfl; rw [Nat.zero_add]; exact rws_at evC_length spu evs j hi'
          refine RX.skip ?_; refine RX.seq ?_; refine RX.block ?_; refine RX.seq ?_
          refine RX.draw (Ch Nil w3) [3, 7] [(0, true), (1, true), (2, true), (3, true), (4, true), (5, true), (6, true), (7, true), (8, true)] mixed (by kernel_rfl) fun w12 gr12 hz12 => ?_; have hC12 := hC.trans (Ch.of_grow gr12)
          have hBs3d12 := hBs3.gr gr12; have hBu3d12 := hBu3.gr gr12; have hp13d12 := hp13.gr gr12; have hp23d12 := hp23.gr gr12; refine RD.rz rfl (V.mv rfl) ?_; refine RD.rz rfl (V.mv rfl) ?_
          refine RD.rz rfl (V.idx e27 rfl rfl (by omega)) ?_; refine RD.rd rfl rfl gr12 (V.ldA a52 rfl (fun _ hS => hBs3.gr hS) rfl (at1 _ (by omega))) ?_; refine RD.rz rfl (V.mv rfl) ?_; refine RD.rz rfl (V.mv rfl) ?_
          refine RD.rz rfl (V.idx e27 rfl rfl (by omega)) ?_; refine RD.rd rfl rfl gr12 (V.ldA a52 rfl (fun _ hS => hBu3.gr hS) rfl (at2 _ (by omega))) ?_; refine RD.rz rfl (V.neS q52 (by kernel_rfl) rfl rfl) ?_; refine RD.nil ?_
          refine RX.condF rfl ?_; refine RX.skip ?_; refine RX.inBlock ?_; refine RX.region ?_; refine RU.rd (V.mv rfl) ?_; refine RU.rd (V.add rfl rfl (by omega)) ?_; refine RU.rd (V.as rfl) ?_; refine RU.nil ?_
          refine RX.keep [(5, _), (6, _), (14, _), (16, _), (20, _)] ⟨rfl, rfl, rfl, rfl, rfl, trivial⟩ ?_
          exact ih (evs.length - (i + 1)) (by omega) _ _ ⟨i + 1, rfl, by omega, rfl, gw3.trans gr12⟩
        · refine RX.exit rfl ?_; refine RX.seq ?_
          refine RX.draw (Ch Nil w3) [3, 8, 15, 20] [(0, true), (1, true), (2, true), (3, true), (5, true), (6, true), (7, true), (8, true), (4, false), (9, false), (10, true), (11, true), (12, true), (13, true), (14, true), (15, true), (17, true), (18, true), (19, true), (20, true), (16, false), (21, false), (22, true), (23, true), (24, true), (25, false), (26, true), (27, true)] mixed (by kernel_rfl) fun w12 gr12 hz12 => ?_
          have hC12 := hC.trans (Ch.of_grow gr12); have hBs3d12 := hBs3.gr gr12; have hBu3d12 := hBu3.gr gr12; have hp13d12 := hp13.gr gr12; have hp23d12 := hp23.gr gr12; refine RD.rz rfl (V.mv rfl) ?_
          refine RD.rz rfl (V.nck rfl) ?_; refine RD.rz rfl (V.fld0 f38_0 rfl) ?_; refine RD.rd rfl rfl gr12 (V.ld s31 rfl (fun _ hS => hp13.gr hS) rfl) ?_; refine RD.rz rfl (V.mv rfl) ?_; refine RD.rz rfl (V.nck rfl) ?_
          refine RD.rz rfl (V.fld0 f38_0 rfl) ?_; refine RD.rd rfl rfl gr12 (V.ld s31 rfl (fun _ hS => hp23.gr hS) rfl) ?_; refine RD.lo rfl (L.call fn13 rfl (c13 (hL13.gr gr12)) ?_); rintro _ w13 ⟨rfl, gr13⟩
          have hS13 := gr12.trans (Ch.of_grow gr13); refine ⟨hS13, ?_⟩; have hC13 := hC12.trans (Ch.of_grow gr13); have hBs3d12 := hBs3d12.gr gr13; have hBu3d12 := hBu3d12.gr gr13; have hp13d12 := hp13d12.gr gr13
          have hp23d12 := hp23d12.gr gr13; refine RD.lo rfl (L.call fn13 rfl (c13 (hL23.gr hS13)) ?_); rintro _ w14 ⟨rfl, gr14⟩; have hS14 := hS13.trans (Ch.of_grow gr14); refine ⟨hS14, ?_⟩
          have hC14 := hC13.trans (Ch.of_grow gr14); have hBs3d12 := hBs3d12.gr gr14; have hBu3d12 := hBu3d12.gr gr14; have hp13d12 := hp13d12.gr gr14; have hp23d12 := hp23d12.gr gr14; refine RD.rz rfl (V.eql rfl rfl) ?_
          refine RD.rz rfl (V.mv rfl) ?_; refine RD.splitD (fun h9 => ?_) (fun _ => by omega); refine RD.rzG rfl rfl rfl (V.mv rfl) ?_; refine RD.rzG rfl rfl rfl (V.nck rfl) ?_; refine RD.rzG rfl rfl rfl (V.fld0 f38_0 rfl) ?_
          refine RD.rdG rfl rfl rfl rfl hS14 (V.ld s31 rfl (fun _ hS => hp13.gr hS) rfl) ?_; refine RD.rzG rfl rfl rfl (V.mv rfl) ?_; refine RD.rzG rfl rfl rfl (V.nck rfl) ?_; refine RD.rzG rfl rfl rfl (V.fld0 f38_0 rfl) ?_
          refine RD.rdG rfl rfl rfl rfl hS14 (V.ld s31 rfl (fun _ hS => hp23.gr hS) rfl) ?_; refine RD.loG rfl rfl rfl (L.call fn13 rfl (c13 (hL13.gr hS14)) ?_); rintro _ w15 ⟨rfl, gr15⟩; have hS15 := hS14.trans (Ch.of_grow gr15)
          refine ⟨hS15, ?_⟩; have hC15 := hC14.trans (Ch.of_grow gr15); have hBs3d12 := hBs3d12.gr gr15; have hBu3d12 := hBu3d12.gr gr15; have hp13d12 := hp13d12.gr gr15; have hp23d12 := hp23d12.gr gr15
          refine RD.lfG rfl rfl rfl (by kernel_rfl) (L.call fn13 rfl (c13 (hL23.gr hS15)) ?_); rintro _ w16 ⟨rfl, gr16⟩; have hC16 := hC15.trans (Ch.of_grow gr16); have hBs3d12 := hBs3d12.gr gr16; have hBu3d12 := hBu3d12.gr gr16
          have hp13d12 := hp13d12.gr gr16; have hp23d12 := hp23d12.gr gr16; refine RD.rzG rfl rfl rfl (V.eql rfl rfl) ?_; refine RD.rz rfl (V.pickT rfl rfl) ?_; refine RD.rz rfl (V.mv rfl) ?_
          refine RD.splitD (fun h10 => ?_) (fun _ => by omega); refine RD.lfG rfl rfl rfl (by kernel_rfl) (L.call fn12 rfl (c12) ?_); rintro _ w17 ⟨rfl, gr17⟩; have hC17 := hC16.trans (Ch.of_grow gr17)
          have hBs3d12 := hBs3d12.gr gr17; have hBu3d12 := hBu3d12.gr gr17; have hp13d12 := hp13d12.gr gr17; have hp23d12 := hp23d12.gr gr17; refine RD.rz rfl (V.pickT rfl rfl) ?_; refine RD.rz rfl (V.as rfl) ?_; refine RD.nil ?_
          refine RX.rt Tryz.func6 (by rfl) (ResOk.tmp rfl (ResOk.nil)) ?_
          exact ⟨rfl, by assumption⟩
end Go.Proofs.YtmcfbinkofoagaaGreat
