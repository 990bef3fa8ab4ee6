/- The document's ledger and its voting, new. -/
import Derived.Test.YtmcfbinkofoagaaGreatTB
namespace Go.Proofs.YtmcfbinkofoagaaGreat
open Go Go.RowKit Sx Go.Proofs

/-- Balances without locks, in the document's ledger. -/
def accX (x : Int × Int) : List Value := [.int .i64 x.1, .int .i64 x.2, .slice none 0 0]
theorem accX_length (x : Int × Int) : (accX x).length = 3 := rfl
structure XG where
  xb : Nat
  ab : Nat
structure XAt (w : World) (x : XG) (D : Led) : Prop where
  hb : Blk w x.xb [.slice (some ⟨x.ab, 0, none⟩) 10 10] 111
  ha : Blk w x.ab (rws accX D.acc) 114
  hl : D.acc.length = 10
  hk : D.locks = []
  ne : x.xb ≠ x.ab
theorem accX_set (l : List (Int × Int)) (i o : Nat) (h : i < l.length) (v : Int) (x : Int × Int) (ho : o < 2) (hx : setAt (accX l[i]) o [.int .i64 v] = accX x) : setAt (rws accX l) (0 + i * 3 + o) [.int .i64 v] = rws accX (l.set i x) := by
  have := rws_set0 accX_length [] l i o h [.int .i64 v] x (by simp; omega) hx
  simpa using this
theorem accX_get (l : List (Int × Int)) (i o : Nat) (h : i < l.length) (ho : o < 3) : (rws accX l)[0 + i * 3 + o]? = (accX l[i])[o]? := by
  have := rws_get0 accX_length [] l i o h ho
  simpa using this

theorem c23 {w : World} : Calls Tryz.prog 23 #[] w (Ret fun v w' => Grow w w' ∧ ∃ b p r, v = .pointer (some ⟨b, 0, none⟩) ∧ w.heap.size ≤ p ∧ w.heap.size ≤ r ∧ p ≠ r ∧ p < b ∧ r < b ∧
    Blk w' b [.slice (some ⟨p, 0, none⟩) 12 12, .slice (some ⟨r, 0, none⟩) 40 40] 134 ∧
    Blk w' p (zerosL [.bool false, .int .i64 0, .int .i64 0, .int .i64 0, .int .i64 0, .int .i64 0, .int .i64 0] 12) 171 ∧
    Blk w' r (zerosL [.slice none 0 0, .bool false, .int .i64 0, .int .i64 0, .int .i64 0, .int .i64 0, .int .i64 0, .int .i64 0, .int .i64 0] 40) 235) := by
  refine calls_of_rx (args := []) (e := []) (n := 5) Tryz.func23 rfl rfl rfl (by kernel_rfl) rfl ?_
  have hC := Ch.refl Nil w
  have nodraw := True.intro
  have uq := True.intro
  refine RX.seq ?_; refine RX.region ?_; refine RU.rd (V.as rfl) ?_; refine RU.nil ?_; refine RX.seq ?_
  clear nodraw
  refine RX.draw2 (fun _ => True) [] [] 0 1 [(1, false), (2, true), (3, false), (4, true)] [(0, false), (2, true), (3, false), (4, true)] [(0, false), (1, false), (2, true), (3, false), (4, true)] [(1, false), (0, false), (2, true), (3, false), (4, true)] rfl rfl mixed (by kernel_rfl) (fun w1 gr1 hz1 => ?_) (fun w1 gr1 hz1 => ?_)
  · have hC1 := hC.trans gr1
    refine RD.lf rfl (by kernel_rfl) (L.mks hC1 e131 z171 rfl by171 rfl rfl (by omega) rfl fun b2 w2 hb2 le2 hC2 gr2 hz2 hB2 => ?_)
    refine RD.lf rfl (by kernel_rfl) (L.mks hC2 e132 z235 rfl by235 rfl rfl (by omega) rfl fun b3 w3 hb3 le3 hC3 gr3 hz3 hB3 => ?_)
    replace hB2 := hB2.gr gr3
    refine RD.rz rfl (V.bld bf134 z134 rfl rfl) ?_; have l4_hB3 := hB3.lt; have l4_hB2 := hB2.lt; refine RD.lf rfl (by kernel_rfl) (L.bx hC3 rfl fun b4 w4 hb4 le4 hC4 gr4 hz4 hB4 => ?_); have hB3a4 := hB3.gr gr4
    have hB2a4 := hB2.gr gr4; refine RD.rz rfl (V.as rfl) ?_; refine RD.nil ?_; refine RX.rt Tryz.func23 (by rfl) (ResOk.tmp rfl (ResOk.nil)) ?_
    exact ⟨by assumption, _, b2, b3, rfl, le2, le3, by omega, by omega, by omega, by assumption, by assumption, by assumption⟩
  · have hC1 := hC.trans gr1
    refine RD.lf rfl (by kernel_rfl) (L.mks hC1 e132 z235 rfl by235 rfl rfl (by omega) rfl fun b2 w2 hb2 le2 hC2 gr2 hz2 hB2 => ?_)
    refine RD.lf rfl (by kernel_rfl) (L.mks hC2 e131 z171 rfl by171 rfl rfl (by omega) rfl fun b3 w3 hb3 le3 hC3 gr3 hz3 hB3 => ?_)
    replace hB2 := hB2.gr gr3
    refine RD.rz rfl (V.bld bf134 z134 rfl rfl) ?_; have l4_hB3 := hB3.lt; have l4_hB2 := hB2.lt; refine RD.lf rfl (by kernel_rfl) (L.bx hC3 rfl fun b4 w4 hb4 le4 hC4 gr4 hz4 hB4 => ?_); have hB3a4 := hB3.gr gr4
    have hB2a4 := hB2.gr gr4; refine RD.rz rfl (V.as rfl) ?_; refine RD.nil ?_; refine RX.rt Tryz.func23 (by rfl) (ResOk.tmp rfl (ResOk.nil)) ?_
    exact ⟨by assumption, _, b3, b2, rfl, le3, le2, by omega, by omega, by omega, by assumption, by assumption, by assumption⟩

def accN (f : List Int) (i : Nat) : List (Int × Int) := newAcc (f.take i) ++ List.replicate (10 - i) (0, 0)
theorem accN_len {f : List Int} (hf : f.length = 10) {i : Nat} (hi : i ≤ 10) : (accN f i).length = 10 := by simp [accN, newAcc, hf]; omega
theorem accN_succ {f : List Int} (hf : f.length = 10) {i : Nat} (hi : i < 10) : (accN f i).set i (f.getD i 0, 0) = accN f (i + 1) := by
  have h1 : 10 - i = (10 - (i + 1)) + 1 := by omega
  have h2 : i < f.length := by omega
  have h3 : (newAcc (f.take i)).length = i := by simp [newAcc]; omega
  rw [accN, accN, h1, List.replicate_succ, List.set_append_right _ _ (by omega), h3, Nat.sub_self, List.set_cons_zero, List.take_succ_eq_append_getElem h2]
  simp only [newAcc, List.map_append, List.append_assoc, List.map_cons, List.map_nil, List.cons_append, List.nil_append, List.getD_eq_getElem?_getD, List.getElem?_eq_getElem h2, Option.getD_some]
theorem accN_at {f : List Int} (hf : f.length = 10) {i : Nat} (hi : i < 10) (h : i < (accN f i).length) : (accN f i)[i] = (0, 0) := by
  have h3 : (newAcc (f.take i)).length = i := by simp [newAcc]; omega
  simp only [accN]
  rw [List.getElem_append_right (by omega)]
  simp
theorem c18 {w : World} {v : Value} {f : List Int} (hr : Rd w 1 v 10 (ints f)) (hf : f.length = 10) (h0 : ∀ x ∈ f, 0 ≤ x ∧ x ≤ 1073741824) (h1 : totalOf (newAcc f) ≤ 1073741824) : Calls Tryz.prog 18 #[v] w
    (Ret fun v w' => ∃ x : XG, v = .tuple #[.pointer (some ⟨x.xb, 0, none⟩), .int .i64 0] ∧ Grow w w' ∧ w.heap.size ≤ x.xb ∧ w.heap.size ≤ x.ab ∧ XAt w' x ⟨newAcc f, []⟩) := by
  obtain ⟨bv, off, c, cs, T, rfl, hbv, hx⟩ : ∃ bv off c cs T, v = .slice (some ⟨bv, off, none⟩) 10 c ∧ Blk w bv cs T ∧ (cs.drop off).take (10 * 1) = ints f := by
    cases hr with
    | some hb hn hx => exact ⟨_, _, _, _, _, rfl, hb, hx⟩
  have at1 : ∀ i (_ : i < f.length), cs[off + i * 1]? = some (.int .i64 (f.getD i 0)) := by
    intro i hi
    have h2 := congrArg (·[i]?) hx
    simp only [List.getElem?_take, List.getElem?_drop, ints, List.getElem?_map] at h2
    rw [if_pos (by omega)] at h2
    rw [Nat.mul_one, h2]; simp [hi]
  refine calls_of_rx (args := [_]) (e := [(0, _)]) (n := 51) Tryz.func18 rfl rfl rfl (by kernel_rfl) rfl ?_
  have hC := Ch.refl Nil w
  have uq := True.intro
  refine RX.seq ?_; refine RX.region ?_; refine RU.rd (V.as rfl) ?_; refine RU.rd (V.as rfl) ?_; refine RU.nil ?_; refine RX.seq ?_; refine RX.seq ?_; refine RX.region ?_; refine RU.rd (V.mv rfl) ?_
  refine RU.rd (V.len u49 rfl) ?_; refine RU.rd (V.gtr rfl rfl) ?_; refine RU.nil ?_; refine RX.condF rfl ?_; refine RX.skip ?_; refine RX.seq ?_; refine RX.region ?_
  refine RU.lo (L.mks hC e109 z114 rfl by114 rfl rfl (by omega) rfl fun b2 w2 hb2 le2 hC2 gr2 hz2 hB2 => ?_)
  refine RU.rd (V.bld bf111 z111 rfl rfl) ?_; have l1_hB2 := hB2.lt; refine RU.lo (L.bx hC2 rfl fun b1 w1 hb1 le1 hC1 gr1 hz1 hB1 => ?_); have hB2 := hB2.gr gr1; refine RU.rd (V.as rfl) ?_; refine RU.nil ?_
  refine RX.seq ?_; refine RX.region ?_; refine RU.rd (V.as rfl) ?_; refine RU.nil ?_; refine RX.seq ?_; refine RX.seq ?_; refine RX.region ?_; refine RU.rd (V.as rfl) ?_; refine RU.nil ?_; refine RX.block ?_
  have hA : Blk w1 b2 (rws accX (accN f 0)) 114 := hB2
  refine RX.keep [(0, _), (4, _), (5, _), (6, _)] ⟨rfl, rfl, rfl, rfl, trivial⟩ ?_
  refine RX.loop (fun d e w' => ∃ i : Nat, d = 10 - i ∧ i ≤ 10 ∧ e = [(0, .slice (some ⟨bv, off, none⟩) 10 c), (4, .pointer (some ⟨b1, 0, none⟩)), (5, .int .i64 (totalOf (newAcc (f.take i)))), (6, .int .i64 i)] ∧ Grow w w' ∧ Blk w' b1 [.slice (some ⟨b2, 0, none⟩) 10 10] 111 ∧ Blk w' b2 (rws accX (accN f i)) 114) (10 - 0) ⟨0, rfl, by omega, rfl, by assumption, by assumption, by assumption⟩ ?_
  have hne : b2 < b1 := by omega
  clear hC hC2 hC1 hB2 hB1 hA gr2 gr1 hb1 hb2 hz2 hz1
  rintro d e w' ⟨i, rfl, hi, rfl, hC4, hB1, hA⟩ ih
  have hbv' := hbv.gr hC4
  refine RX.seq ?_; refine RX.seq ?_; refine RX.region ?_; refine RU.rd (V.mv rfl) ?_; refine RU.rd (V.mv rfl) ?_; refine RU.rd (V.len u49 rfl) ?_; refine RU.rd (V.lss rfl rfl) ?_; refine RU.nil ?_
  refine RX.condD rfl (fun h2 => ?_) fun h2 => ?_
  · have hi' : i < f.length := by omega
    have hx0 : 0 ≤ f.getD (i : Int).toNat 0 ∧ f.getD (i : Int).toNat 0 ≤ 1073741824 := by
      rw [show f.getD (i : Int).toNat 0 = f[i] by simp [hi']]
      exact h0 _ (List.getElem_mem hi')
    refine RX.skip ?_; refine RX.seq ?_; refine RX.block ?_; refine RX.seq ?_; refine RX.seq ?_; refine RX.region ?_; refine RU.rd (V.mv rfl) ?_; refine RU.rd (V.mv rfl) ?_; refine RU.rd (V.idx e49 rfl rfl (by omega)) ?_
    refine RU.rd (V.ld s3 rfl (cur hbv') (at1 _ (by omega))) ?_; refine RU.rd (V.lss rfl rfl) ?_; refine RU.rd (V.mv rfl) ?_; refine RU.splitD (fun _ => by omega) fun h3 => ?_; refine RU.rdG rfl rfl (V.mv rfl) ?_
    refine RU.rdG rfl rfl (V.mv rfl) ?_; refine RU.rdG rfl rfl (V.idx e49 rfl rfl (by omega)) ?_; refine RU.rdG rfl rfl (V.ld s3 rfl (cur hbv') (at1 _ (by omega))) ?_; refine RU.rdG rfl rfl (V.gtr rfl rfl) ?_
    refine RU.rd (V.pickF rfl rfl) ?_; refine RU.nil ?_; refine RX.condD rfl (fun _ => by omega) fun h4 => ?_; refine RX.skip ?_; refine RX.seq ?_
    refine RX.draw (Ch Nil w') [3, 8] [(0, true), (1, true), (2, true), (3, true), (4, true), (5, true), (6, true), (7, true), (8, true), (9, true), (10, true), (11, false)] mixed (by kernel_rfl) fun w3 gr3 hz3 => ?_
    have hC3 := hC4.trans (Ch.of_grow gr3); have hB1d3 := hB1.gr gr3; have hAd3 := hA.gr gr3; have hbv'd3 := hbv'.gr gr3; refine RD.rz rfl (V.mv rfl) ?_; refine RD.rz rfl (V.nck rfl) ?_
    refine RD.rz rfl (V.fld0 f111_0 rfl) ?_; refine RD.rd rfl rfl gr3 (V.ld s109 rfl (fun _ hS => hB1.gr hS) rfl) ?_; refine RD.rz rfl (V.mv rfl) ?_; refine RD.rz rfl (V.mv rfl) ?_; refine RD.rz rfl (V.mv rfl) ?_
    refine RD.rz rfl (V.idx e49 rfl rfl (by omega)) ?_; refine RD.rd rfl rfl gr3 (V.ld s3 rfl (fun _ hS => hbv'.gr hS) (at1 _ (by omega))) ?_; refine RD.rz rfl (V.idx e109 rfl rfl (by omega)) ?_
    refine RD.rz rfl (V.fld f114_0 rfl) ?_
    have ln1 : (rws accX (accN f i)).length = 30 := by rw [rws_length accX_length, accN_len hf hi]
    refine RD.lf0 rfl (by kernel_rfl) (L.st hC3 sz3 rfl rfl rfl rfl hAd3 (by rw [ln1]; omega) (.inl le2) fun w4 hC4 ch4 hz4 hA4 => ?_)
    have e1 := accX_set (accN f i) i 0 (by rw [accN_len hf hi]; omega) (f.getD i 0) (f.getD i 0, 0) (by decide) (by rw [accN_at hf (by omega)]; rfl)
    rw [accN_succ hf (by omega)] at e1
    have hA5 : Blk w4 b2 (rws accX (accN f (i + 1))) 114 := by rw [← e1]; exact hA4
    have hB4 := hB1d3.ch ch4 (by omega)
    have hbv4 := hbv.gr hC4
    clear hA4 hB1d3 hAd3 hbv'd3
    have hs := totalOf_take (l := newAcc f) i (by simpa [newAcc] using hi')
    have hnn : ∀ x ∈ newAcc f, 0 ≤ x.1 ∧ 0 ≤ x.2 := by
      intro x hx; obtain ⟨y, hy, rfl⟩ := List.mem_map.1 hx; exact ⟨(h0 y hy).1, Int.le_refl 0⟩
    have hs2 := totalOf_take_le hnn i
    have e3 : ∀ j, (newAcc f).take j = newAcc (f.take j) := fun j => by simp [newAcc]
    rw [e3] at hs2
    rw [e3, e3] at hs
    have e4 : (newAcc f)[i]'(by simpa [newAcc] using hi') = (f.getD i 0, 0) := by simp [newAcc, hi']
    rw [e4] at hs
    have e5 : totalOf (newAcc (f.take (i + 1))) = totalOf (newAcc (f.take i)) + f.getD (i : Int).toNat 0 := by rw [hs]; show _ + (f.getD i 0 + 0) = _ + f.getD i 0; omega
    refine RD.nil ?_; refine RX.region ?_; refine RU.rd (V.mv rfl) ?_; refine RU.rd (V.mv rfl) ?_; refine RU.rd (V.mv rfl) ?_; refine RU.rd (V.idx e49 rfl rfl (by omega)) ?_
    refine RU.rd (V.ld s3 rfl (cur hbv4) (at1 _ (by omega))) ?_; refine RU.rd (V.add rfl rfl (by omega)) ?_; refine RU.rd (V.as rfl) ?_; refine RU.nil ?_; refine RX.inBlock ?_; refine RX.region ?_; refine RU.rd (V.mv rfl) ?_
    refine RU.rd (V.add rfl rfl (by omega)) ?_; refine RU.rd (V.as rfl) ?_; refine RU.nil ?_
    refine RX.keep [(0, _), (4, _), (5, _), (6, _)] ⟨rfl, rfl, rfl, rfl, trivial⟩ ?_
    refine ih (10 - (i + 1)) (by omega) _ _ ⟨i + 1, rfl, by omega, ?_, hC4, hB4, hA5⟩
    rw [e5]; rfl
  · have : i = 10 := by omega
    subst this
    rw [List.take_of_length_le (by omega)]
    have ht : ¬ 1073741824 < totalOf (newAcc f) := by omega
    refine RX.exit rfl ?_; refine RX.seq ?_; refine RX.seq ?_; refine RX.region ?_; refine RU.rd (V.mv rfl) ?_; refine RU.rd (V.gtr rfl rfl) ?_; refine RU.nil ?_; refine RX.condD rfl (fun _ => by omega) fun h3 => ?_
    refine RX.skip ?_; refine RX.seq ?_; refine RX.region ?_; refine RU.rd (V.mv rfl) ?_; refine RU.rd (V.as rfl) ?_; refine RU.rd (V.as rfl) ?_; refine RU.nil ?_
    refine RX.rt Tryz.func18 (by rfl) (ResOk.tmp rfl (ResOk.tmp rfl (ResOk.nil))) ?_
    refine ⟨⟨b1, b2⟩, rfl, hC4, le1, le2, hB1, ?_, by simpa [newAcc] using hf, rfl, by show b1 ≠ b2; omega⟩
    have : accN f 10 = newAcc f := by rw [accN, List.take_of_length_le (by omega)]; simp
    rw [← this]; exact hA
end Go.Proofs.YtmcfbinkofoagaaGreat
