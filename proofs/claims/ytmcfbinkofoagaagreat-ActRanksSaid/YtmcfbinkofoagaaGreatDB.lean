/- Calls of every kind: what they do to the ledger and to the referenda. -/
import Derived.Test.YtmcfbinkofoagaaGreatZB
namespace Go.Proofs.YtmcfbinkofoagaaGreat
open Go Go.RowKit Sx Go.Proofs

abbrev St := Led × List Rfd
structure StOk (s : St) : Prop where
  ho : s.1.Ok
  hk : s.1.locks = []
  hl : s.1.acc.length = 10
  hr : RsOk s.2
abbrev Did2 := St × List (Int × Int × Int) × Int
def canS (now b : Int) (s : St) : Did2 := ((s.1, canR s.2 b 5 now), (if ongE s.2 b = 0 then [(1, b, 5)] else []), ongE s.2 b)
def kilS (now b : Int) (s : St) : Did2 := ((if ongE s.2 b = 0 then s.1.sla (refAt s.2 b).who 10 else s.1, if ongE s.2 b = 0 then s.2.set b.toNat (killR (refAt s.2 b) now) else s.2),
  (if ongE s.2 b = 0 then [(1, b, 6), (6, (refAt s.2 b).who, s.1.tk (refAt s.2 b).who 10)] else []), ongE s.2 b)
def spdS (cap to n : Int) (s : St) : Did2 := (((spendC cap to n s.1).1, s.2), (spendC cap to n s.1).2.1, (spendC cap to n s.1).2.2)
mutual
def Cal.run (of now cap rank : Int) : Cal → St → Did2
  | .mk k to n l, s => if k = 1 then (s, [(5, of, n)], 0) else if k = 2 then spdS cap to n s else if k = 5 then Cal.runL of now cap rank l s else
      if k = 3 then (if rank < 1 then (s, [], 8) else canS now n s) else if rank < 2 then (s, [], 8) else kilS now n s
def Cal.runL (of now cap rank : Int) : List Cal → St → Did2
  | [], s => (s, [], 0)
  | c :: r, s => if (c.run of now cap rank s).2.2 ≠ 0 then c.run of now cap rank s else
      ((Cal.runL of now cap rank r (c.run of now cap rank s).1).1, (c.run of now cap rank s).2.1 ++ (Cal.runL of now cap rank r (c.run of now cap rank s).1).2.1, (Cal.runL of now cap rank r (c.run of now cap rank s).1).2.2)
end
mutual
/-- What holds calls holds one. -/
def Cal.good : Cal → Prop
  | .mk k _ _ l => k = 5 → 0 < l.length ∧ Cal.goodL l
def Cal.goodL : List Cal → Prop
  | [] => True
  | c :: r => c.good ∧ Cal.goodL r
end
theorem Cal.goodL_mem : ∀ {l : List Cal} {c : Cal}, Cal.goodL l → c ∈ l → c.good
  | d :: r, c, hp, h => by
    unfold Cal.goodL at hp
    rcases List.mem_cons.1 h with rfl | h
    · exact hp.1
    · exact Cal.goodL_mem hp.2 h
mutual
theorem Cal.good_of : ∀ (c : Cal) (deep : Int), c.isB deep = true → c.good
  | .mk k to n l, deep, h => by
    unfold Cal.good
    rintro rfl
    simp only [Cal.isB, Bool.and_eq_true, decide_eq_true_eq] at h
    have h := h
    simp at h
    exact ⟨by omega, Cal.goodL_of l _ h.2⟩
theorem Cal.goodL_of : ∀ (l : List Cal) (deep : Int), Cal.isL deep l = true → Cal.goodL l
  | [], _, _ => trivial
  | c :: r, deep, h => by
    simp only [Cal.isL, Bool.and_eq_true] at h
    exact ⟨Cal.good_of c deep h.1, Cal.goodL_of r deep h.2⟩
end
theorem RsOk.set {rs : List Rfd} (h : RsOk rs) (i : Nat) {y : Rfd} (hy : y.state ≠ 1) : RsOk (rs.set i y) := fun x hx h1 => by
  rcases List.mem_or_eq_of_mem_set hx with hx | rfl
  · exact h x hx h1
  · exact absurd h1 hy
theorem canS_ok {s : St} (h : StOk s) (now b : Int) : StOk (canS now b s).1 ∧ (canS now b s).1.2.length = s.2.length ∧ (canS now b s).2.1.length ≤ 2 := by
  refine ⟨⟨h.ho, h.hk, h.hl, ?_⟩, ?_, ?_⟩
  · show RsOk (canR _ _ _ _)
    unfold canR; split
    · exact h.hr.set _ (by show (5 : Int) ≠ 1; decide)
    · exact h.hr
  · show (canR _ _ _ _).length = _
    unfold canR; split
    · exact List.length_set ..
    · rfl
  · show (if _ then _ else _ : List (Int × Int × Int)).length ≤ 2
    split <;> simp
theorem kilS_ok {s : St} (h : StOk s) (now b : Int) : StOk (kilS now b s).1 ∧ (kilS now b s).1.2.length = s.2.length ∧ (kilS now b s).2.1.length ≤ 2 := by
  unfold kilS
  by_cases he : ongE s.2 b = 0
  · simp only [if_pos he]
    have h1 := Led.sla_ok h.ho h.hl (refAt s.2 b).who 10
    exact ⟨⟨h1.1, by rw [h1.2.1]; exact h.hk, h1.2.2, h.hr.set _ (by show (6 : Int) ≠ 1; decide)⟩, List.length_set .., by simp⟩
  · simp only [if_neg he]
    exact ⟨⟨h.ho, h.hk, h.hl, h.hr⟩, by first | trivial | rfl, by simp⟩
theorem spend_lk (cap to n : Int) (D : Led) : (spendC cap to n D).1.locks = D.locks := by
  unfold spendC; split
  · rfl
  · split
    · rfl
    · exact Led.tr_lk _ _ _ _
theorem spdS_ok {s : St} (h : StOk s) (cap to n : Int) : StOk (spdS cap to n s).1 ∧ (spdS cap to n s).1.2.length = s.2.length ∧ (spdS cap to n s).2.1.length ≤ 2 := by
  have := spendC_ok h.ho h.hl cap to n
  exact ⟨⟨this.1, by show (spendC cap to n s.1).1.locks = []; rw [spend_lk]; exact h.hk, this.2.1, h.hr⟩, rfl, by show (spendC cap to n s.1).2.1.length ≤ 2; omega⟩
mutual
theorem Cal.run_ok (of now cap rank : Int) : ∀ (c : Cal) (s : St), StOk s → StOk (c.run of now cap rank s).1 ∧ (c.run of now cap rank s).1.2.length = s.2.length ∧ (c.run of now cap rank s).2.1.length ≤ 2 * c.sz
  | .mk k to n l, s, h => by
    unfold Cal.run Cal.sz
    split
    · exact ⟨h, rfl, by simp; omega⟩
    · split
      · have := spdS_ok h cap to n; exact ⟨this.1, this.2.1, by omega⟩
      · split
        · have := Cal.runL_ok of now cap rank l s h; exact ⟨this.1, this.2.1, by omega⟩
        · split
          · split
            · exact ⟨h, rfl, by simp⟩
            · have := canS_ok h now n; exact ⟨this.1, this.2.1, by omega⟩
          · split
            · exact ⟨h, rfl, by simp⟩
            · have := kilS_ok h now n; exact ⟨this.1, this.2.1, by omega⟩
theorem Cal.runL_ok (of now cap rank : Int) : ∀ (l : List Cal) (s : St), StOk s → StOk (Cal.runL of now cap rank l s).1 ∧ (Cal.runL of now cap rank l s).1.2.length = s.2.length ∧ (Cal.runL of now cap rank l s).2.1.length ≤ 2 * Cal.szL l
  | [], s, h => ⟨h, rfl, by simp [Cal.runL]⟩
  | c :: r, s, h => by
    have h1 := Cal.run_ok of now cap rank c s h
    unfold Cal.runL Cal.szL
    split
    · exact ⟨h1.1, h1.2.1, by omega⟩
    · have h2 := Cal.runL_ok of now cap rank r _ h1.1
      exact ⟨h2.1, by rw [h2.2.1]; exact h1.2.1, by simp only [List.length_append]; omega⟩
end
/-- What comes behind what there was. -/
def behind2 (acc : List (Int × Int × Int)) (y : Did2) : Did2 := (y.1, acc ++ y.2.1, y.2.2)
theorem behind2_cons {of now cap rank : Int} {c : Cal} {r : List Cal} {s : St} (h : (c.run of now cap rank s).2.2 = 0) (acc : List (Int × Int × Int)) : behind2 acc (Cal.runL of now cap rank (c :: r) s) = behind2 (acc ++ (c.run of now cap rank s).2.1) (Cal.runL of now cap rank r (c.run of now cap rank s).1) := by
  simp only [behind2, Cal.runL, h, ne_eq, not_true_eq_false, if_false, List.append_assoc]
theorem behind2_stop {of now cap rank : Int} {c : Cal} {r : List Cal} {s : St} (h : (c.run of now cap rank s).2.2 ≠ 0) (acc : List (Int × Int × Int)) : behind2 acc (Cal.runL of now cap rank (c :: r) s) = behind2 acc (c.run of now cap rank s) := by
  simp only [behind2, Cal.runL, h, ne_eq, not_false_eq_true, if_true]

/-- What calls may change. -/
def QG.chg (q : QG) (pk : Nat → Nat) (n x : Nat) : Prop := x = q.g.ab ∨ x = q.gb ∨ ∃ i, i < n ∧ x = pk i
theorem QG.chg_foot {q : QG} {pk : Nat → Nat} {gv : Value} {n x : Nat} (h : q.chg pk n x) : q.foot pk gv n x := by
  rcases h with rfl | rfl | h
  · exact .inl (.inr (.inl rfl))
  · exact .inr (.inr (.inr (.inr (.inr (.inl rfl)))))
  · exact .inr (.inr (.inl h))
structure DoAt2 (w : World) (db : Nat) (of now : Int) (q : QG) (pk : Nat → Nat) (gv : Value) (s : St) : Prop where
  hd : Blk w db [.pointer (some ⟨q.g.lb, 0, none⟩), .pointer (some ⟨q.vb, 0, none⟩), .pointer (some ⟨q.rb, 0, none⟩), .int .i64 of, .int .i64 now] 86
  hq : QAt w q pk gv s.1 s.2
  nd : ¬ q.chg pk s.2.length db
theorem QAt.nchg {w : World} {q : QG} {pk : Nat → Nat} {gv : Value} {D : Led} {rs : List Rfd} (h : QAt w q pk gv D rs) : ¬ q.chg pk rs.length q.rb ∧ ¬ q.chg pk rs.length q.tb ∧ ¬ q.chg pk rs.length q.vb := by
  have o1 := h.o1 q.g.ab (.inr (.inl rfl))
  have o2 := h.o2
  have o3 := h.o3
  have o4 := h.o4
  have o5 := h.o5
  refine ⟨?_, ?_, ?_⟩ <;>
  · rintro (e | e | ⟨i, hi, e⟩)
    · omega
    · omega
    · have := h.o6 i hi; omega
section
variable {w w1 : World} {db : Nat} {of now : Int} {q : QG} {pk : Nat → Nat} {gv gv' : Value} {s s' : St}
theorem DoAt2.gr (h : DoAt2 w db of now q pk gv s) (hc : Grow w w1) : DoAt2 w1 db of now q pk gv s := ⟨h.hd.gr hc, h.hq.gr hc, h.nd⟩
theorem DoAt2.upd (h : DoAt2 w db of now q pk gv s) (hc : Ch (q.chg pk s.2.length) w w1) (hq : QAt w1 q pk gv' s'.1 s'.2) (hl : s'.2.length = s.2.length) : DoAt2 w1 db of now q pk gv' s' := ⟨h.hd.ch hc h.nd, hq, by rw [hl]; exact h.nd⟩
theorem DoAt2.ch {S : Nat → Prop} (h : DoAt2 w db of now q pk gv s) (hc : Ch S w w1) (hs : ∀ b, (b = db ∨ q.foot pk gv s.2.length b) → ¬ S b) : DoAt2 w1 db of now q pk gv s :=
  ⟨h.hd.ch hc (hs _ (.inl rfl)), h.hq.ch hc (fun b hb => hs b (.inr hb)), h.nd⟩
theorem DoAt2.lt (h : DoAt2 w db of now q pk gv s) : ∀ b, (b = db ∨ q.foot pk gv s.2.length b) → b < w.heap.size := by
  rintro b (rfl | hb)
  · exact h.hd.lt
  · exact h.hq.lt b hb
end
/-- What is said of a call. -/
def RunOk (db : Nat) (of now : Int) (q : QG) (pk : Nat → Nat) (n : Nat) (c : Cal) : Prop := ∀ (w : World) (gv : Value) (s : St) (cs : List Value), DoAt2 w db of now q pk gv s → StOk s → s.2.length = n → CalR (fun b => ¬ q.chg pk n b) w c cs → c.good → c.sz ≤ 1000000 →
  Calls Tryz.prog 28 #[.pointer (some ⟨db, 0, none⟩), .agg cs.toArray] w
    (Ret fun v w' => ∃ sl gv', v = .tuple #[sl, .int .i64 (c.run of now (trAt theTracks of).cap (trAt theTracks of).rank s).2.2] ∧ Own w.heap.size w' 3 52 sl (evsC (c.run of now (trAt theTracks of).cap (trAt theTracks of).rank s).2.1) ∧ Ch (q.chg pk n) w w' ∧
      QAt w' q pk gv' (c.run of now (trAt theTracks of).cap (trAt theTracks of).rank s).1.1 (c.run of now (trAt theTracks of).cap (trAt theTracks of).rank s).1.2 ∧ ∀ c, inSl gv' c → inSl gv c ∨ w.heap.size ≤ c)

theorem c61g {db : Nat} {of now : Int} {q : QG} {pk : Nat → Nat} {m : Nat} {l : List Cal} (ih : ∀ c ∈ l, RunOk db of now q pk m c) {w : World} {gv : Value} {s : St} {b off c : Nat} {all : List Value} (h : DoAt2 w db of now q pk gv s) (ho : StOk s) (hm : s.2.length = m) (hB : ¬ q.chg pk m b) (hb : BlkR w b all) (hal : off + l.length * 4 ≤ all.length)
    (hk : ∀ i (hi : i < l.length), CalR (fun b => ¬ q.chg pk m b) w l[i] ((all.drop (off + i * 4)).take 4)) (hp : Cal.goodL l) (hz : Cal.szL l ≤ 1000000) :
    Calls Tryz.prog 61 #[.pointer (some ⟨db, 0, none⟩), .slice (some ⟨b, off, none⟩) l.length c] w
    (Ret fun v w' => ∃ sl gv', v = .tuple #[sl, .int .i64 (Cal.runL of now (trAt theTracks of).cap (trAt theTracks of).rank l s).2.2] ∧ Own w.heap.size w' 3 52 sl (evsC (Cal.runL of now (trAt theTracks of).cap (trAt theTracks of).rank l s).2.1) ∧ Ch (q.chg pk m) w w' ∧
      QAt w' q pk gv' (Cal.runL of now (trAt theTracks of).cap (trAt theTracks of).rank l s).1.1 (Cal.runL of now (trAt theTracks of).cap (trAt theTracks of).rank l s).1.2 ∧ ∀ c, inSl gv' c → inSl gv c ∨ w.heap.size ≤ c) := by
  generalize ecap : (trAt theTracks of).cap = cap at *
  generalize erank : (trAt theTracks of).rank = rank at *
  refine calls_of_rx (args := [_, _]) (e := [(0, _), (1, _)]) (n := 32) Tryz.func61 rfl rfl rfl (by kernel_rfl) rfl ?_
  have hC := Ch.refl (q.chg pk m) w
  have uq := True.intro
  refine RX.seq ?_; refine RX.region ?_; refine RU.rd (V.as rfl) ?_; refine RU.rd (V.as rfl) ?_; refine RU.nil ?_; refine RX.seq ?_; refine RX.region ?_; refine RU.rd (V.as rfl) ?_; refine RU.nil ?_; refine RX.seq ?_
  refine RX.seq ?_; refine RX.region ?_; refine RU.rd (V.mv rfl) ?_; refine RU.rd (V.len u24 rfl) ?_; refine RU.rd (V.mv rfl) ?_; refine RU.nil ?_; refine RX.block ?_
  have hlt0 : ∀ x, q.chg pk m x → x < w.heap.size := fun x hx => h.hq.lt x (by rw [hm]; exact QG.chg_foot hx)
  refine RX.keep [(0, _), (6, _), (11, _), (12, _), (13, _)] ⟨rfl, rfl, rfl, rfl, rfl, trivial⟩ ?_
  refine RX.loop (fun d e w' => ∃ i : Nat, d = l.length - i ∧ i ≤ l.length ∧ ∃ u gvi si acc, e = [(0, .pointer (some ⟨db, 0, none⟩)), (6, u), (11, .slice (some ⟨b, off, none⟩) l.length c), (12, .int .i64 l.length), (13, .int .i64 i)] ∧
    Ch (q.chg pk m) w w' ∧ DoAt2 w' db of now q pk gvi si ∧ StOk si ∧ si.2.length = m ∧ Own w.heap.size w' 3 52 u (evsC acc) ∧ (∀ x, inSl u x → ¬ (x = db ∨ q.foot pk gvi m x)) ∧ (∀ x, inSl gvi x → inSl gv x ∨ w.heap.size ≤ x) ∧ behind2 acc (Cal.runL of now cap rank (l.drop i) si) = Cal.runL of now cap rank l s ∧ acc.length + 2 * Cal.szL (l.drop i) ≤ 2 * Cal.szL l) (l.length - 0)
    ⟨0, rfl, by omega, .slice none 0 0, gv, s, [], rfl, hC, h, ho, hm, .nil, fun x hx => absurd hx inSl.no, fun x hx => .inl hx, by simp [behind2], by simp⟩ ?_
  clear hC h ho hm
  rintro d e w' ⟨i, rfl, hi, u, gvi, si, acc, rfl, hC, h, ho, hm, hO, hd0, hgi, hinv, hsz⟩ ihl
  have hb' := hb.ch hC hB
  have hlt := h.lt
  rw [hm] at hlt
  refine RX.seq ?_; refine RX.region ?_; refine RU.rd (V.lss rfl rfl) ?_; refine RU.nil ?_; refine RX.seq ?_; refine RX.condD rfl (fun h1 => ?_) fun h1 => ?_
  · have hi' : i < l.length := by omega
    have hk1 := hk i hi'
    obtain ⟨k4, to4, n4, p4, m4, c4, e4⟩ := hk1.four
    rw [e4] at hk1
    have hd : l.drop i = l[i] :: l.drop (i + 1) := List.drop_eq_getElem_cons hi'
    rw [hd] at hinv
    rw [hd, Cal.szL] at hsz
    have at1 : ∀ j (_ : j = i), (all.drop (off + j * 4)).take 4 = [.int .i64 k4, .int .i64 to4, .int .i64 n4, .slice p4 m4 c4] := by rintro j rfl; exact e4
    refine RX.skip ?_; refine RX.seq ?_; refine RX.block ?_; refine RX.seq ?_; refine RX.region ?_; refine RU.rd (V.idx e24 rfl rfl (by omega)) ?_; refine RU.rd (V.ldAR a26 rfl (cur hb') rfl (at1 _ (by omega))) ?_
    have l1_hb' := hb'.lt; refine RU.lo (L.al hC z26 fun b1 w1 hb1 le1 hC1 gr1 hz1 hB1 => ?_); have hb' := hb'.gr gr1; refine RU.lo0 (L.stN hC1 sz26 rfl rfl rfl rfl hB1 rfl le1 fun w2 hC2 ch2 hz2 hB1 => ?_)
    have hb' := hb'.ch ch2 (by omega); refine RU.nil ?_; refine RX.seq ?_; refine RX.region ?_; refine RU.rd (V.mv rfl) ?_; refine RU.rd (V.ldA a26 rfl (cur hB1) (vs := [_, _, _, _]) rfl rfl) ?_
    have hl2 := hO.lt
    have hn1 : l[i] ∈ l := List.getElem_mem hi'
    have hll := Cal.len_le l
    have hz1 := Cal.szL_mem hn1
    have hg := Cal.run_ok of now cap rank l[i] si ho
    have h2 : DoAt2 w2 db of now q pk gvi si := (h.gr gr1).ch ch2 (by rintro x hx rfl; rw [hm] at hx; have := hlt _ hx; omega)
    refine RU.lo (L.call fn28 rfl (ih l[i] hn1 w2 gvi si _ h2 ho hm (hk1.ch hC2 (fun x hx he => hx he)) (Cal.goodL_mem hp hn1) (by omega)) ?_)
    rintro _ w3 ⟨sl, gv3, rfl, hOs, ch3, hQ3, hg3⟩
    rw [ecap, erank] at hOs hQ3 ⊢
    have h3 : DoAt2 w3 db of now q pk gv3 (l[i].run of now cap rank si).1 := h2.upd (by rw [hm]; exact ch3) hQ3 hg.2.1
    have hC3 := hC2.trans ch3
    obtain ⟨ns, hRs⟩ := hOs.rd
    have hO3 := ((hO.gr gr1).ch ch2 (by rintro x hx rfl; have := hl2 _ hx; omega)).ch ch3 (fun x hx hs => hd0 x hx (.inr (QG.chg_foot hs)))
    have z1 := gr1.size
    have z2 := ch2.size
    have hw' := hC.size
    have hft : ∀ x, (x = db ∨ q.foot pk gv3 m x) → (x = db ∨ q.foot pk gvi m x) ∨ w2.heap.size ≤ x := by
      rintro x (hx | hx | hx | hx | hx | hx | hx | hx)
      · exact .inl (.inl hx)
      · exact .inl (.inr (.inl hx))
      · exact .inl (.inr (.inr (.inl hx)))
      · exact .inl (.inr (.inr (.inr (.inl hx))))
      · exact .inl (.inr (.inr (.inr (.inr (.inl hx)))))
      · exact .inl (.inr (.inr (.inr (.inr (.inr (.inl hx))))))
      · exact .inl (.inr (.inr (.inr (.inr (.inr (.inr (.inl hx)))))))
      · rcases hg3 x hx with hx | hx
        · exact .inl (.inr (.inr (.inr (.inr (.inr (.inr (.inr hx)))))))
        · exact .inr hx
    have hft3 := h3.lt
    rw [hg.2.1, hm] at hft3
    have hu3 : ∀ x, inSl u x → ¬ (x = db ∨ q.foot pk gv3 m x) := fun x hx hf => by
      rcases hft x hf with h1 | h1
      · exact hd0 x hx h1
      · have := hl2 x hx; omega
    refine RU.rd (V.mv rfl) ?_; refine RU.rd (V.ext rfl rfl) ?_; refine RU.rd (V.ext rfl rfl) ?_; refine RU.rd (V.as rfl) ?_; refine RU.rd (V.as rfl) ?_; refine RU.nil ?_; refine RX.seq ?_; refine RX.region ?_
    refine RU.rd (V.mv rfl) ?_; refine RU.rd (V.mv rfl) ?_
    have hm1 := evsC_len acc
    have hm2 := evsC_len (l[i].run of now cap rank si).2.1
    refine RU.lo (L.app hC3 e27 u27 z52 rfl by52 rfl rfl hO3 hRs rfl (evsC_one _) (by omega) fun u' w4 hC4 ch4 hO4 hin => ?_)
    have h4 := h3.ch ch4 (by rw [hg.2.1, hm]; intro x hx hs; exact hu3 x hs hx)
    have hu4 : ∀ x, inSl u' x → ¬ (x = db ∨ q.foot pk gv3 m x) := fun x hx hf => by
      rcases hin x hx with h1 | h1
      · exact hu3 x h1 hf
      · have := hft3 x hf; omega
    have e5 : evsC acc ++ evsC (l[i].run of now cap rank si).2.1 = evsC (acc ++ (l[i].run of now cap rank si).2.1) := (rws_append _ _).symm
    rw [e5] at hO4
    have hgi4 : ∀ x, inSl gv3 x → inSl gv x ∨ w.heap.size ≤ x := fun x hx => by
      rcases hg3 x hx with h1 | h1
      · exact hgi x h1
      · exact .inr (by omega)
    refine RU.rd (V.as rfl) ?_; refine RU.nil ?_; refine RX.seq ?_; refine RX.region ?_; refine RU.rd (V.mv rfl) ?_; refine RU.rd (V.neq rfl rfl) ?_; refine RU.nil ?_; refine RX.condD rfl (fun h5 => ?_) fun h5 => ?_
    · have he : (l[i].run of now cap rank si).2.2 ≠ 0 := by assumption
      rw [behind2_stop he] at hinv
      refine RX.seq ?_; refine RX.region ?_; refine RU.rd (V.mv rfl) ?_; refine RU.rd (V.mv rfl) ?_; refine RU.rd (V.as rfl) ?_; refine RU.rd (V.as rfl) ?_; refine RU.nil ?_
      refine RX.rt Tryz.func61 (by rfl) (ResOk.tmp rfl (ResOk.tmp rfl (ResOk.nil))) ?_
      rw [← hinv]
      exact ⟨u', gv3, rfl, hO4, hC4, h4.hq, hgi4⟩
    · have he : ¬ (l[i].run of now cap rank si).2.2 ≠ 0 := by assumption
      rw [behind2_cons (Decidable.not_not.1 he)] at hinv
      refine RX.skip ?_; refine RX.inBlock ?_; refine RX.region ?_; refine RU.rd (V.add rfl rfl (by omega)) ?_; refine RU.rd (V.mv rfl) ?_; refine RU.nil ?_
      refine RX.keep [(0, _), (6, _), (11, _), (12, _), (13, _)] ⟨rfl, rfl, rfl, rfl, rfl, trivial⟩ ?_
      refine ihl (l.length - (i + 1)) (by omega) _ _ ⟨i + 1, rfl, by omega, u', gv3, _, _, rfl, hC4, h4, hg.1, by rw [hg.2.1, hm], hO4, hu4, hgi4, hinv, ?_⟩
      rw [List.length_append]; omega
  · have : i = l.length := by omega
    subst this
    refine RX.exit rfl ?_; refine RX.seq ?_; refine RX.region ?_; refine RU.rd (V.mv rfl) ?_; refine RU.rd (V.as rfl) ?_; refine RU.rd (V.as rfl) ?_; refine RU.nil ?_
    refine RX.rt Tryz.func61 (by rfl) (ResOk.tmp rfl (ResOk.tmp rfl (ResOk.nil))) ?_
    rw [List.drop_length] at hinv
    simp only [behind2, Cal.runL, List.append_nil] at hinv
    rw [← hinv]
    exact ⟨u, gvi, rfl, hO, hC, h.hq, hgi⟩
end Go.Proofs.YtmcfbinkofoagaaGreat
