/- Calls: what a spend, a remark and a batch of such do. -/
import Derived.Test.YtmcfbinkofoagaaGreatCA
namespace Go.Proofs.YtmcfbinkofoagaaGreat
open Go Go.RowKit Sx Go.Proofs

/-- A call: its kind, to whom, how much, and what it holds. -/
inductive Cal where
  | mk (k to n : Int) (kids : List Cal)
mutual
def Cal.sz : Cal → Nat
  | .mk _ _ _ l => 1 + Cal.szL l
def Cal.szL : List Cal → Nat
  | [] => 0
  | c :: r => c.sz + Cal.szL r
end
mutual
/-- A remark, a spend, or a batch of such. -/
def Cal.plain : Cal → Prop
  | .mk k _ _ l => k = 1 ∨ k = 2 ∨ (k = 5 ∧ 0 < l.length ∧ Cal.plainL l)
def Cal.plainL : List Cal → Prop
  | [] => True
  | c :: r => c.plain ∧ Cal.plainL r
end
/-- What became of the ledger, what happened, and why not. -/
abbrev Did := Led × List (Int × Int × Int) × Int
mutual
def Cal.does (of cap : Int) : Cal → Led → Did
  | .mk k to n l, D => if k = 1 then (D, [(5, of, n)], 0) else if k = 2 then spendC cap to n D else Cal.doesL of cap l D
def Cal.doesL (of cap : Int) : List Cal → Led → Did
  | [], D => (D, [], 0)
  | c :: r, D => if (c.does of cap D).2.2 ≠ 0 then c.does of cap D else
      ((Cal.doesL of cap r (c.does of cap D).1).1, (c.does of cap D).2.1 ++ (Cal.doesL of cap r (c.does of cap D).1).2.1, (Cal.doesL of cap r (c.does of cap D).1).2.2)
end
def calC (k to n : Int) (v : Value) : List Value := [.int .i64 k, .int .i64 to, .int .i64 n, v]
/-- A call in memory; its blocks are such of B. -/
inductive CalR (B : Nat → Prop) (w : World) : Cal → List Value → Prop
  | nil {k to n : Int} : CalR B w (.mk k to n []) [.int .i64 k, .int .i64 to, .int .i64 n, .slice none 0 0]
  | kids {k to n : Int} {l : List Cal} {b off c : Nat} {all : List Value} (hB : B b) (hb : BlkR w b all) (h0 : 0 < l.length) (hl : off + l.length * 4 ≤ all.length) (h : ∀ i (hi : i < l.length), CalR B w l[i] ((all.drop (off + i * 4)).take 4)) :
      CalR B w (.mk k to n l) [.int .i64 k, .int .i64 to, .int .i64 n, .slice (some ⟨b, off, none⟩) l.length c]
theorem CalR.ch {B : Nat → Prop} {w w1 : World} {S : Nat → Prop} (hc : Ch S w w1) (hs : ∀ b, B b → ¬ S b) {c : Cal} {cs : List Value} (h : CalR B w c cs) : CalR B w1 c cs := by
  induction h with
  | nil => exact .nil
  | kids hB hb h0 hl _ ih => exact .kids hB (hb.ch hc (hs _ hB)) h0 hl ih
theorem CalR.four {B : Nat → Prop} {w : World} {c : Cal} {cs : List Value} (h : CalR B w c cs) : ∃ k to n p m c, cs = [.int .i64 k, .int .i64 to, .int .i64 n, .slice p m c] := by
  cases h with
  | nil => exact ⟨_, _, _, _, _, _, rfl⟩
  | kids => exact ⟨_, _, _, _, _, _, rfl⟩

theorem CalR.inv {B : Nat → Prop} {w : World} {k to n : Int} {l : List Cal} {cs : List Value} (h : CalR B w (.mk k to n l) cs) : ∃ p c, cs = [.int .i64 k, .int .i64 to, .int .i64 n, .slice p l.length c] ∧
    (0 < l.length → ∃ b off all, p = some ⟨b, off, none⟩ ∧ B b ∧ BlkR w b all ∧ off + l.length * 4 ≤ all.length ∧ ∀ i (hi : i < l.length), CalR B w l[i] ((all.drop (off + i * 4)).take 4)) := by
  cases h with
  | nil => exact ⟨_, _, rfl, fun h => by simp at h⟩
  | kids hB hb h0 hl h => exact ⟨_, _, rfl, fun _ => ⟨_, _, _, rfl, hB, hb, hl, h⟩⟩
theorem Led.put_total {D : Led} (hl : D.acc.length = 10) {a : Int} (ha : Led.is a) (x : Int × Int) : totalOf (D.put a x).acc = totalOf D.acc - ((D.at a).1 + (D.at a).2) + (x.1 + x.2) := by
  have hlt : a.toNat < D.acc.length := by have := ha.1; have := ha.2; omega
  rw [Led.put, totalOf_set _ _ hlt, Led.at_of ha.1 hlt hl]
theorem Led.tr_good {D : Led} (ho : D.Ok) (hl : D.acc.length = 10) (f t n : Int) : (D.tr f t n).Ok ∧ (D.tr f t n).acc.length = 10 := by
  unfold Led.tr
  split
  · rename_i h
    obtain ⟨ht, hm⟩ := h
    obtain ⟨hf, hn0, hn1, hn2⟩ := Led.may_ok hm
    have h1 := ho.at hl f
    have h2 := ho.2
    have hp1 : (D.put f ((D.at f).1 - n, (D.at f).2)).Ok := Led.put_ok ho hl hf ⟨by dsimp only; omega, by dsimp only; omega⟩ (by dsimp only; omega)
    have hl1 : (D.put f ((D.at f).1 - n, (D.at f).2)).acc.length = 10 := by rw [Led.put_len]; exact hl
    have ht1 := Led.put_total hl hf ((D.at f).1 - n, (D.at f).2)
    have h3 := hp1.at hl1 t
    dsimp only at ht1 ⊢
    refine ⟨Led.put_ok hp1 hl1 ht ⟨by dsimp only; omega, by dsimp only; omega⟩ (by dsimp only; omega), by rw [Led.put_len]; exact hl1⟩
  · exact ⟨ho, hl⟩
theorem spendC_ok {D : Led} (ho : D.Ok) (hl : D.acc.length = 10) (cap to n : Int) : (spendC cap to n D).1.Ok ∧ (spendC cap to n D).1.acc.length = 10 ∧ (spendC cap to n D).2.1.length ≤ 1 := by
  unfold spendC
  split
  · exact ⟨ho, hl, by simp⟩
  · split
    · exact ⟨ho, hl, by simp⟩
    · have := Led.tr_good ho hl 0 to n; exact ⟨this.1, this.2, by simp⟩
mutual
theorem Cal.does_ok (of cap : Int) : ∀ (c : Cal) (D : Led), D.Ok → D.acc.length = 10 → (c.does of cap D).1.Ok ∧ (c.does of cap D).1.acc.length = 10 ∧ (c.does of cap D).2.1.length ≤ c.sz
  | .mk k to n l, D, ho, hl => by
    unfold Cal.does Cal.sz
    split
    · exact ⟨ho, hl, by simp⟩
    · split
      · have := spendC_ok ho hl cap to n; exact ⟨this.1, this.2.1, by omega⟩
      · have := Cal.doesL_ok of cap l D ho hl; exact ⟨this.1, this.2.1, by omega⟩
theorem Cal.doesL_ok (of cap : Int) : ∀ (l : List Cal) (D : Led), D.Ok → D.acc.length = 10 → (Cal.doesL of cap l D).1.Ok ∧ (Cal.doesL of cap l D).1.acc.length = 10 ∧ (Cal.doesL of cap l D).2.1.length ≤ Cal.szL l
  | [], D, ho, hl => ⟨ho, hl, by simp [Cal.doesL, Cal.szL]⟩
  | c :: r, D, ho, hl => by
    have h1 := Cal.does_ok of cap c D ho hl
    unfold Cal.doesL Cal.szL
    split
    · exact ⟨h1.1, h1.2.1, by omega⟩
    · have h2 := Cal.doesL_ok of cap r _ h1.1 h1.2.1
      exact ⟨h2.1, h2.2.1, by simp only [List.length_append]; omega⟩
end

/-- Where the one who does calls stands. -/
structure DoG where
  db : Nat
  g : LG
  rb : Nat
  tb : Nat
  c : Nat
  sp : List Value
  gv : Value
  vp : Value
  of : Int
  now : Int
structure DoAt (w : World) (q : DoG) (ts : List Trk) (D : Led) : Prop where
  hd : Blk w q.db [.pointer (some ⟨q.g.lb, 0, none⟩), q.vp, .pointer (some ⟨q.rb, 0, none⟩), .int .i64 q.of, .int .i64 q.now] 86
  hl : LedAt w q.g D
  hr : Blk w q.rb [.slice (some ⟨q.tb, 0, none⟩) ts.length q.c, q.gv] 90
  ht : Blk w q.tb (trsC ts ++ q.sp) 80
  n1 : q.db ≠ q.g.ab
  n2 : q.rb ≠ q.g.ab
  n3 : q.tb ≠ q.g.ab
theorem DoAt.gr {w w1 : World} {q : DoG} {ts : List Trk} {D : Led} (h : DoAt w q ts D) (hc : Grow w w1) : DoAt w1 q ts D := ⟨h.hd.gr hc, h.hl.gr hc, h.hr.gr hc, h.ht.gr hc, h.n1, h.n2, h.n3⟩
theorem DoAt.upd {w w1 : World} {q : DoG} {ts : List Trk} {D D' : Led} (h : DoAt w q ts D) (hc : Ch (· = q.g.ab) w w1) (hl : LedAt w1 q.g D') : DoAt w1 q ts D' := ⟨h.hd.ch hc h.n1, hl, h.hr.ch hc h.n2, h.ht.ch hc h.n3, h.n1, h.n2, h.n3⟩
theorem DoAt.ch {w w1 : World} {q : DoG} {ts : List Trk} {D : Led} {S : Nat → Prop} (h : DoAt w q ts D) (hc : Ch S w w1) (hs : ∀ b, (b = q.db ∨ b = q.rb ∨ b = q.tb ∨ q.g.foot b) → ¬ S b) : DoAt w1 q ts D :=
  ⟨h.hd.ch hc (hs _ (.inl rfl)), h.hl.ch hc (fun b hb => hs b (.inr (.inr (.inr hb)))), h.hr.ch hc (hs _ (.inr (.inl rfl))), h.ht.ch hc (hs _ (.inr (.inr (.inl rfl)))), h.n1, h.n2, h.n3⟩
theorem DoAt.lt {w : World} {q : DoG} {ts : List Trk} {D : Led} (h : DoAt w q ts D) : ∀ b, (b = q.db ∨ b = q.rb ∨ b = q.tb ∨ q.g.foot b) → b < w.heap.size := by
  rintro b (rfl | rfl | rfl | hb)
  · exact h.hd.lt
  · exact h.hr.lt
  · exact h.ht.lt
  · exact h.hl.lt b hb

/-- What is said of a call. -/
def DoesOk (q : DoG) (ts : List Trk) (c : Cal) : Prop := ∀ (w : World) (D : Led) (cs : List Value), DoAt w q ts D → D.Ok → CalR (· ≠ q.g.ab) w c cs → c.plain → c.sz ≤ 1000000 →
  Calls Tryz.prog 28 #[.pointer (some ⟨q.db, 0, none⟩), .agg cs.toArray] w
    (Ret fun v w' => ∃ s, v = .tuple #[s, .int .i64 (c.does q.of (trAt ts q.of).cap D).2.2] ∧ Own w.heap.size w' 3 52 s (evsC (c.does q.of (trAt ts q.of).cap D).2.1) ∧ Ch (· = q.g.ab) w w' ∧ DoAt w' q ts (c.does q.of (trAt ts q.of).cap D).1)
theorem evsC_len (l : List (Int × Int × Int)) : (evsC l).length = l.length * 3 := rws_length evC_length l
theorem evsC_one (l : List (Int × Int × Int)) : (evsC l).all (·.oneCell') = true := by
  induction l with
  | nil => rfl
  | cons t r ih => simp only [evsC, rws, List.all_append, Bool.and_eq_true]; exact ⟨rfl, ih⟩
theorem Cal.szL_mem : ∀ {l : List Cal} {c : Cal}, c ∈ l → c.sz ≤ Cal.szL l
  | d :: r, c, h => by
    unfold Cal.szL
    rcases List.mem_cons.1 h with rfl | h
    · omega
    · have := Cal.szL_mem h; omega
theorem Cal.len_le : ∀ (l : List Cal), l.length ≤ Cal.szL l
  | [] => by simp
  | .mk _ _ _ l :: r => by
    have := Cal.len_le r
    simp only [Cal.szL, Cal.sz, List.length_cons]; omega
theorem Cal.plainL_mem : ∀ {l : List Cal} {c : Cal}, Cal.plainL l → c ∈ l → c.plain
  | d :: r, c, hp, h => by
    unfold Cal.plainL at hp
    rcases List.mem_cons.1 h with rfl | h
    · exact hp.1
    · exact Cal.plainL_mem hp.2 h
/-- What comes behind what there was. -/
def behind (acc : List (Int × Int × Int)) (y : Did) : Did := (y.1, acc ++ y.2.1, y.2.2)
theorem behind_cons {of cap : Int} {c : Cal} {r : List Cal} {D : Led} (h : (c.does of cap D).2.2 = 0) (acc : List (Int × Int × Int)) : behind acc (Cal.doesL of cap (c :: r) D) = behind (acc ++ (c.does of cap D).2.1) (Cal.doesL of cap r (c.does of cap D).1) := by
  simp only [behind, Cal.doesL, h, ne_eq, not_true_eq_false, if_false, List.append_assoc]
theorem behind_stop {of cap : Int} {c : Cal} {r : List Cal} {D : Led} (h : (c.does of cap D).2.2 ≠ 0) (acc : List (Int × Int × Int)) : behind acc (Cal.doesL of cap (c :: r) D) = behind acc (c.does of cap D) := by
  simp only [behind, Cal.doesL, h, ne_eq, not_false_eq_true, if_true]

theorem c61 {q : DoG} {ts : List Trk} {l : List Cal} (ih : ∀ c ∈ l, DoesOk q ts c) {w : World} {D : Led} {b off c : Nat} {all : List Value} (h : DoAt w q ts D) (ho : D.Ok) (hB : b ≠ q.g.ab) (hb : BlkR w b all) 
    (hk : ∀ i (hi : i < l.length), CalR (· ≠ q.g.ab) w l[i] ((all.drop (off + i * 4)).take 4)) (hp : Cal.plainL l) (hz : Cal.szL l ≤ 1000000) :
    Calls Tryz.prog 61 #[.pointer (some ⟨q.db, 0, none⟩), .slice (some ⟨b, off, none⟩) l.length c] w
    (Ret fun v w' => ∃ s, v = .tuple #[s, .int .i64 (Cal.doesL q.of (trAt ts q.of).cap l D).2.2] ∧ Own w.heap.size w' 3 52 s (evsC (Cal.doesL q.of (trAt ts q.of).cap l D).2.1) ∧ Ch (· = q.g.ab) w w' ∧ DoAt w' q ts (Cal.doesL q.of (trAt ts q.of).cap l D).1) := by
  refine calls_of_rx (args := [_, _]) (e := [(0, _), (1, _)]) (n := 32) Tryz.func61 rfl rfl rfl (by kernel_rfl) rfl ?_
  have hC := Ch.refl (· = q.g.ab) w
  have uq := True.intro
  refine RX.seq ?_; refine RX.region ?_; refine RU.rd (V.as rfl) ?_; refine RU.rd (V.as rfl) ?_; refine RU.nil ?_; refine RX.seq ?_; refine RX.region ?_; refine RU.rd (V.as rfl) ?_; refine RU.nil ?_; refine RX.seq ?_
  refine RX.seq ?_; refine RX.region ?_; refine RU.rd (V.mv rfl) ?_; refine RU.rd (V.len u24 rfl) ?_; refine RU.rd (V.mv rfl) ?_; refine RU.nil ?_; refine RX.block ?_
  have hlt := h.lt
  have hab := h.hl.lt q.g.ab (.inr (.inl rfl))
  refine RX.keep [(0, _), (6, _), (11, _), (12, _), (13, _)] ⟨rfl, rfl, rfl, rfl, rfl, trivial⟩ ?_
  refine RX.loop (fun d e w' => ∃ i : Nat, d = l.length - i ∧ i ≤ l.length ∧ ∃ u Di acc, e = [(0, .pointer (some ⟨q.db, 0, none⟩)), (6, u), (11, .slice (some ⟨b, off, none⟩) l.length c), (12, .int .i64 l.length), (13, .int .i64 i)] ∧
    Ch (· = q.g.ab) w w' ∧ DoAt w' q ts Di ∧ Di.Ok ∧ Own w.heap.size w' 3 52 u (evsC acc) ∧ behind acc (Cal.doesL q.of (trAt ts q.of).cap (l.drop i) Di) = Cal.doesL q.of (trAt ts q.of).cap l D ∧ acc.length + Cal.szL (l.drop i) ≤ Cal.szL l) (l.length - 0)
    ⟨0, rfl, by omega, .slice none 0 0, D, [], rfl, hC, h, ho, .nil, by simp [behind], by simp⟩ ?_
  clear hC h ho
  rintro d e w' ⟨i, rfl, hi, u, Di, acc, rfl, hC, h, ho, hO, hinv, hsz⟩ ihl
  have hb' := hb.ch hC hB
  refine RX.seq ?_; refine RX.region ?_; refine RU.rd (V.lss rfl rfl) ?_; refine RU.nil ?_; refine RX.seq ?_; refine RX.condD rfl (fun h1 => ?_) fun h1 => ?_
  · have hi' : i < l.length := by omega
    have hk1 := hk i hi'
    obtain ⟨k4, to4, n4, p4, m4, c4, e4⟩ := hk1.four
    rw [e4] at hk1
    have hd : l.drop i = l[i] :: l.drop (i + 1) := List.drop_eq_getElem_cons hi'
    rw [hd] at hinv
    rw [hd, Cal.szL] at hsz
    have at1 : ∀ j (_ : j = i), (all.drop (off + j * 4)).take 4 = [.int .i64 k4, .int .i64 to4, .int .i64 n4, .slice p4 m4 c4] := by rintro j rfl; exact e4
    refine RX.skip ?_; refine RX.seq ?_; refine RX.block ?_; refine RX.seq ?_; refine RX.region ?_; refine RU.rd (V.idx e24 rfl rfl (by omega)) ?_; refine RU.rd (V.ldAR a26 rfl (cur hb') rfl (at1 _ (by omega))) ?_
    have l1_hb' := hb'.lt; refine RU.lo (L.al hC z26 fun b1 w1 hb1 le1 hC1 gr1 hz1 hB1 => ?_); have hb' := hb'.gr gr1; refine RU.lo0 (L.stN hC1 sz26 rfl rfl rfl rfl hB1 rfl le1 fun w2 hC2 ch2 hz2 hB1 => ?_)
    have hb' := hb'.ch ch2 (by omega); refine RU.nil ?_; refine RX.seq ?_; refine RX.region ?_; refine RU.rd (V.mv rfl) ?_; refine RU.rd (V.ldA a26 rfl (cur hB1) (vs := [_, _, _, _]) rfl rfl) ?_
    have hC3 := hC2
    have hl2 := hO.lt
    have hn1 : l[i] ∈ l := List.getElem_mem hi'
    have hll := Cal.len_le l
    have hz1 := Cal.szL_mem hn1
    have hg := Cal.does_ok q.of (trAt ts q.of).cap l[i] Di ho h.hl.hl
    have h2 : DoAt w2 q ts Di := (h.gr gr1).ch ch2 (by rintro x hx rfl; have := hlt _ hx; omega)
    refine RU.lo (L.call fn28 rfl (ih l[i] hn1 w2 Di _ h2 ho (hk1.ch hC3 (fun x hx he => hx he)) (Cal.plainL_mem hp hn1) (by omega)) ?_)
    rintro _ w3 ⟨s, rfl, hOs, ch3, h3⟩
    have hC4 := hC3.trans ch3
    obtain ⟨ns, hRs⟩ := hOs.rd
    have hO3 := ((hO.gr gr1).ch ch2 (by rintro x hx rfl; have := hl2 _ hx; omega)).ch ch3 (by rintro x hx rfl; have := hl2 _ hx; omega)
    refine RU.rd (V.mv rfl) ?_; refine RU.rd (V.ext rfl rfl) ?_; refine RU.rd (V.ext rfl rfl) ?_; refine RU.rd (V.as rfl) ?_; refine RU.rd (V.as rfl) ?_; refine RU.nil ?_; refine RX.seq ?_; refine RX.region ?_
    refine RU.rd (V.mv rfl) ?_; refine RU.rd (V.mv rfl) ?_
    have hm1 := evsC_len acc
    have hm2 := evsC_len (l[i].does q.of (trAt ts q.of).cap Di).2.1
    refine RU.lo (L.app hC4 e27 u27 z52 rfl by52 rfl rfl hO3 hRs rfl (evsC_one _) (by omega) fun u' w4 hC5 ch4 hO4 hin => ?_)
    have h4 := h3.ch ch4 (by intro x hx hs; have := hlt _ hx; have := hl2 _ hs; omega)
    have e5 : evsC acc ++ evsC (l[i].does q.of (trAt ts q.of).cap Di).2.1 = evsC (acc ++ (l[i].does q.of (trAt ts q.of).cap Di).2.1) := (rws_append _ _).symm
    rw [e5] at hO4
    refine RU.rd (V.as rfl) ?_; refine RU.nil ?_; refine RX.seq ?_; refine RX.region ?_; refine RU.rd (V.mv rfl) ?_; refine RU.rd (V.neq rfl rfl) ?_; refine RU.nil ?_; refine RX.condD rfl (fun h5 => ?_) fun h5 => ?_
    · have he : (l[i].does q.of (trAt ts q.of).cap Di).2.2 ≠ 0 := by assumption
      rw [behind_stop he] at hinv
      refine RX.seq ?_; refine RX.region ?_; refine RU.rd (V.mv rfl) ?_; refine RU.rd (V.mv rfl) ?_; refine RU.rd (V.as rfl) ?_; refine RU.rd (V.as rfl) ?_; refine RU.nil ?_
      refine RX.rt Tryz.func61 (by rfl) (ResOk.tmp rfl (ResOk.tmp rfl (ResOk.nil))) ?_
      rw [← hinv]
      exact ⟨u', rfl, hO4, hC5, h4⟩
    · have he : ¬ (l[i].does q.of (trAt ts q.of).cap Di).2.2 ≠ 0 := by assumption
      rw [behind_cons (Decidable.not_not.1 he)] at hinv
      refine RX.skip ?_; refine RX.inBlock ?_; refine RX.region ?_; refine RU.rd (V.add rfl rfl (by omega)) ?_; refine RU.rd (V.mv rfl) ?_; refine RU.nil ?_
      refine RX.keep [(0, _), (6, _), (11, _), (12, _), (13, _)] ⟨rfl, rfl, rfl, rfl, rfl, trivial⟩ ?_
      refine ihl (l.length - (i + 1)) (by omega) _ _ ⟨i + 1, rfl, by omega, u', _, _, rfl, hC5, h4, hg.1, hO4, hinv, ?_⟩
      rw [List.length_append]; omega
  · have : i = l.length := by omega
    subst this
    refine RX.exit rfl ?_; refine RX.seq ?_; refine RX.region ?_; refine RU.rd (V.mv rfl) ?_; refine RU.rd (V.as rfl) ?_; refine RU.rd (V.as rfl) ?_; refine RU.nil ?_
    refine RX.rt Tryz.func61 (by rfl) (ResOk.tmp rfl (ResOk.tmp rfl (ResOk.nil))) ?_
    rw [List.drop_length] at hinv
    simp only [behind, Cal.doesL, List.append_nil] at hinv
    rw [← hinv]
    exact ⟨u, rfl, hO, hC, h⟩

theorem Own.base {w : World} {a b sz : Nat} {T : TypeId} {v : Value} {cs : List Value} (h : Own a w sz T v cs) (hb : b ≤ a) : Own b w sz T v cs := by
  cases h with
  | nil => exact .nil
  | some h0 hb' hl hc ht hn => exact .some (Nat.le_trans hb h0) hb' hl hc ht hn
theorem Cal.does_spend {of cap to n : Int} {l : List Cal} {D : Led} : (Cal.mk 2 to n l).does of cap D = spendC cap to n D := by simp [Cal.does]
theorem doesOk (q : DoG) (ts : List Trk) : ∀ c : Cal, DoesOk q ts c
  | .mk k to n l => by
    intro w D cs h ho hcal hpl hz
    obtain ⟨p4, c4, rfl, hkids⟩ := hcal.inv
    have hd := h.hd
    have hr := h.hr
    have ht := h.ht
    have n1 := h.n1
    have n2 := h.n2
    have n3 := h.n3
    have hab := h.hl.lt q.g.ab (.inr (.inl rfl))
    refine calls_of_rx (args := [_, _]) (e := [(0, _), (1, _)]) (n := 94) Tryz.func28 rfl rfl rfl (by kernel_rfl) rfl ?_
    have hC := Ch.refl (· = q.g.ab) w
    have uq := True.intro
    have nodraw := True.intro
    refine RX.seq ?_; refine RX.region ?_; refine RU.lo (L.bx hC rfl fun b1 w1 hb1 le1 hC1 gr1 hz1 hB1 => ?_); refine RU.rd (V.as rfl) ?_; refine RU.rd (V.as rfl) ?_; refine RU.nil ?_; refine RX.seq ?_
    clear nodraw
    refine RX.cut (fun e w' => ∃ b2, e = [(0, .pointer (some ⟨q.db, 0, none⟩)), (3, .pointer (some ⟨b1, 0, none⟩)), (4, .slice none 0 0), (5, .int .i64 0), (6, .pointer (some ⟨b2, 0, none⟩))] ∧ Grow w w' ∧ b1 ≠ q.g.ab ∧ b2 ≠ q.g.ab ∧
      Blk w' b1 [.int .i64 k, .int .i64 to, .int .i64 n, .slice p4 l.length c4] 26 ∧ Blk w' b2 (trC (trAt ts q.of)) 80) ?_ fun rest => ?_
    · rintro e w2 ⟨b2, rfl, gr2, nb1, nb2, hB1, hB2⟩
      have hC2 : Ch (· = q.g.ab) w w2 := .of_grow gr2
      have h2 := h.gr gr2
      refine RX.seq ?_; refine RX.seq ?_; refine RX.region ?_; refine RU.rd (V.fld0 f26_0 rfl) ?_; refine RU.rd (V.ld s3 rfl (cur hB1) rfl) ?_; refine RU.nil ?_; refine RX.block ?_; refine RX.seq ?_; refine RX.region ?_
      refine RU.rd (V.eql rfl rfl) ?_; refine RU.rd (V.as rfl) ?_; refine RU.nil ?_; refine RX.condD rfl (fun h1 => ?_) fun h1 => ?_
      · have hk1 : k = 1 := by assumption
        subst hk1
        have e1 : (Cal.mk 1 to n l).does q.of (trAt ts q.of).cap D = (D, [(5, q.of, n)], 0) := by simp [Cal.does]
        rw [e1]
        refine RX.seq ?_; refine RX.draw (Ch Nil w2) [3, 5] [(0, true), (1, true), (2, true), (3, true), (4, true), (5, true), (6, true), (7, false), (8, true), (9, true)] mixed (by kernel_rfl) fun w3 gr3 hz3 => ?_
        have hC3 := hC2.trans (Ch.of_grow gr3); have hB2d3 := hB2.gr gr3; have hB1d3 := hB1.gr gr3; refine RD.rz rfl (V.mv rfl) ?_; refine RD.rz rfl (V.nck rfl) ?_; refine RD.rz rfl (V.fld0 f86_3 rfl) ?_
        refine RD.rd rfl rfl gr3 (V.ld s3 rfl (fun _ hS => (hd.gr gr2).gr hS) rfl) ?_; refine RD.rz rfl (V.fld0 f26_2 rfl) ?_; refine RD.rd rfl rfl gr3 (V.ld s3 rfl (fun _ hS => hB1.gr hS) rfl) ?_
        refine RD.rz rfl (V.bld bf52 z52 rfl rfl) ?_; have l4_hB2d3 := hB2d3.lt; have l4_hB1d3 := hB1d3.lt; refine RD.lf rfl (by kernel_rfl) (L.bsl hC3 e27 z52 rfl rfl rfl rfl fun b4 w4 hb4 le4 hC4 gr4 hz4 hB4 => ?_)
        have hS4 := gr3.trans (Ch.of_grow gr4); have hB2d3a4 := hB2d3.gr gr4; have hB1d3a4 := hB1d3.gr gr4; refine RD.rz rfl (V.as rfl) ?_; refine RD.rz rfl (V.as rfl) ?_; refine RD.nil ?_
        refine RX.rt Tryz.func28 (by rfl) (ResOk.tmp rfl (ResOk.tmp rfl (ResOk.nil))) ?_
        exact ⟨_, rfl, .some (by assumption) (by assumption) rfl rfl rfl (by decide), by assumption, h2.gr (by assumption)⟩
      · refine RX.seq ?_; refine RX.region ?_; refine RU.rd (V.eql rfl rfl) ?_; refine RU.rd (V.as rfl) ?_; refine RU.nil ?_; refine RX.condD rfl (fun h3 => ?_) fun h3 => ?_
        · have hk1 : k = 2 := by assumption
          subst hk1
          have e1 : (Cal.mk 2 to n l).does q.of (trAt ts q.of).cap D = spendC (trAt ts q.of).cap to n D := by simp [Cal.does]
          rw [e1]
          refine RX.seq ?_; refine RX.region ?_; refine RU.rd (V.mv rfl) ?_; refine RU.rd (V.ldA a80 rfl (cur hB2) (vs := [_, _, _, _, _, _, _, _, _, _, _, _, _, _, _, _, _, _]) rfl rfl) ?_
          refine RU.rd (V.ldA a26 rfl (cur hB1) (vs := [_, _, _, _]) rfl rfl) ?_
          refine RU.lo (L.call fn60 rfl (c60 (k := 2) (sl := .slice p4 l.length c4) h2.hd n1 h2.hl ho) ?_)
          rintro _ w3 ⟨s, rfl, hO3, ch3, hL3⟩
          have hC3 := hC2.trans ch3
          refine RU.rd (V.ext rfl rfl) ?_; refine RU.rd (V.ext rfl rfl) ?_; refine RU.rd (V.as rfl) ?_; refine RU.rd (V.as rfl) ?_; refine RU.nil ?_; refine RX.rt Tryz.func28 (by rfl) (ResOk.tmp rfl (ResOk.tmp rfl (ResOk.nil))) ?_
          exact ⟨s, rfl, Own.base hO3 gr2.size, hC3, h2.upd ch3 hL3⟩
        · refine RX.seq ?_; refine RX.region ?_; refine RU.rd (V.eql rfl rfl) ?_; refine RU.rd (V.as rfl) ?_; refine RU.nil ?_; refine RX.condD rfl (fun h4 => ?_) fun h4 => ?_
          · have hk1 : k = 5 := by assumption
            subst hk1
            have hpl' : 0 < l.length ∧ Cal.plainL l := by unfold Cal.plain at hpl; rcases hpl with h | h | h; omega; omega; exact h.2
            have e1 : (Cal.mk 5 to n l).does q.of (trAt ts q.of).cap D = Cal.doesL q.of (trAt ts q.of).cap l D := by simp [Cal.does]
            rw [e1]
            obtain ⟨b, off, all, rfl, hB, hb, hal, hkk⟩ := hkids hpl'.1
            have hzl : Cal.szL l ≤ 1000000 := by unfold Cal.sz at hz; omega
            refine RX.seq ?_; refine RX.region ?_; refine RU.rd (V.mv rfl) ?_; refine RU.rd (V.fld0 f26_3 rfl) ?_; refine RU.rd (V.ld s24 rfl (cur hB1) rfl) ?_
            refine RU.lo (L.call fn61 rfl (c61 (fun c hc => doesOk q ts c) h2 ho hB (hb.gr gr2) (fun i hi => (hkk i hi).ch gr2 (fun _ _ => id)) hpl'.2 hzl) ?_)
            rintro _ w3 ⟨s, rfl, hO3, ch3, hL3⟩
            have hC3 := hC2.trans ch3
            refine RU.rd (V.ext rfl rfl) ?_; refine RU.rd (V.ext rfl rfl) ?_; refine RU.rd (V.as rfl) ?_; refine RU.rd (V.as rfl) ?_; refine RU.nil ?_; refine RX.rt Tryz.func28 (by rfl) (ResOk.tmp rfl (ResOk.tmp rfl (ResOk.nil))) ?_
            exact ⟨s, rfl, Own.base hO3 gr2.size, hC3, hL3⟩
          · exfalso
            unfold Cal.plain at hpl; omega
    · refine RX.draw2 (Ch Nil w1) [0, 1, 2, 3, 4, 5, 6, 7] [(0, true), (1, true), (2, true), (3, true), (4, true), (5, true), (6, true), (7, true)] 8 12 [(9, true), (10, true), (11, true), (12, false), (13, false), (14, true)] [(8, false), (9, true), (10, true), (11, true), (13, false), (14, true)]
        [(0, true), (1, true), (2, true), (3, true), (4, true), (5, true), (6, true), (7, true), (8, false), (9, true), (10, true), (11, true), (12, false), (13, false), (14, true)] [(0, true), (1, true), (2, true), (3, true), (4, true), (5, true), (6, true), (7, true), (12, false), (8, false), (9, true), (10, true), (11, true), (13, false), (14, true)] rfl rfl mixed (by kernel_rfl) (fun w2 gr2 hz2 => ?_) (fun w2 gr2 hz2 => ?_)
      · have hC2 := hC1.trans (.of_grow gr2)
        refine RD.rd rfl rfl gr2 (V.mv rfl) ?_; refine RD.rd rfl rfl gr2 (V.nck rfl) ?_; refine RD.rd rfl rfl gr2 (V.fld0 f86_2 rfl) ?_; refine RD.rd rfl rfl gr2 (V.ld s33 rfl (fun _ hS => (hd.gr gr1).gr hS) rfl) ?_
        refine RD.rd rfl rfl gr2 (V.mv rfl) ?_; refine RD.rd rfl rfl gr2 (V.nck rfl) ?_; refine RD.rd rfl rfl gr2 (V.fld0 f86_3 rfl) ?_; refine RD.rd rfl rfl gr2 (V.ld s3 rfl (fun _ hS => (hd.gr gr1).gr hS) rfl) ?_
        refine RD.lf rfl (by kernel_rfl) (L.call fn26 rfl (c26 (hr.ch hC2 (by first | assumption | omega | (dsimp only; omega) | (simp; omega))) (ht.ch hC2 (by first | assumption | omega | (dsimp only; omega) | (simp; omega)))) ?_)
        rintro _ w3 ⟨rfl, gr3⟩; have hC3 := hC2.trans (Ch.of_grow gr3); refine RD.rz rfl (V.mv rfl) ?_; refine RD.rz rfl (V.ext rfl rfl) ?_; refine RD.rz rfl (V.ext rfl rfl) ?_
        have hS3 : Ch Nil w1 w3 := gr2.trans gr3
        refine RD.lo rfl (L.al hC3 z80 fun b4 w4 hb4 le4 hC4 gr4 hz4 hB4 => ⟨hS3.trans (Ch.of_grow gr4), ?_⟩); have hS4 := hS3.trans (Ch.of_grow gr4)
        refine RD.lf0 rfl (by kernel_rfl) (L.stN hC4 sz80 rfl rfl rfl rfl hB4 rfl le4 fun w5 hC5 ch5 hz5 hB5 => ?_)
        refine RD.rq rfl (by kernel_rfl) (V.as rfl) ?_
        refine RD.nil ?_
        refine RX.keep [(0, _), (3, _), (4, _), (5, _), (6, _)] ⟨rfl, rfl, rfl, rfl, rfl, trivial⟩ ?_
        have z2 := gr2.size
        have z3 := gr3.size
        have z4 := gr4.size
        have hS4 := (gr2.trans gr3).trans gr4
        exact rest _ _ ⟨b4, rfl, (gr1.trans hS4).trans' ch5 (by rintro b hb rfl; omega), by omega, by omega, (hB1.gr hS4).ch ch5 (by omega), hB5⟩
      · have hC2 := hC1.trans (.of_grow gr2)
        refine RD.rd rfl rfl gr2 (V.mv rfl) ?_; refine RD.rd rfl rfl gr2 (V.nck rfl) ?_; refine RD.rd rfl rfl gr2 (V.fld0 f86_2 rfl) ?_; refine RD.rd rfl rfl gr2 (V.ld s33 rfl (fun _ hS => (hd.gr gr1).gr hS) rfl) ?_
        refine RD.rd rfl rfl gr2 (V.mv rfl) ?_; refine RD.rd rfl rfl gr2 (V.nck rfl) ?_; refine RD.rd rfl rfl gr2 (V.fld0 f86_3 rfl) ?_; refine RD.rd rfl rfl gr2 (V.ld s3 rfl (fun _ hS => (hd.gr gr1).gr hS) rfl) ?_
        refine RD.lo rfl (L.al hC2 z80 fun b3 w3 hb3 le3 hC3 gr3 hz3 hB3 => ⟨gr2.trans (Ch.of_grow gr3), ?_⟩); have hS3 := gr2.trans (Ch.of_grow gr3)
        refine RD.lf rfl (by kernel_rfl) (L.call fn26 rfl (c26 (hr.ch hC3 n2) (ht.ch hC3 n3)) ?_)
        rintro _ w4 ⟨rfl, gr4⟩
        have hC4 := hC3.trans (.of_grow gr4)
        refine RD.rz rfl (V.mv rfl) ?_; refine RD.rz rfl (V.ext rfl rfl) ?_; refine RD.rz rfl (V.ext rfl rfl) ?_
        refine RD.lf0 rfl (by kernel_rfl) (L.stN hC4 sz80 rfl rfl rfl rfl (hB3.gr gr4) rfl le3 fun w5 hC5 ch5 hz5 hB5 => ?_)
        refine RD.rq rfl (by kernel_rfl) (V.as rfl) ?_
        refine RD.nil ?_
        refine RX.keep [(0, _), (3, _), (4, _), (5, _), (6, _)] ⟨rfl, rfl, rfl, rfl, rfl, trivial⟩ ?_
        have z2 := gr2.size
        have z3 := gr3.size
        have z4 := gr4.size
        have hS4 := (gr2.trans gr3).trans gr4
        exact rest _ _ ⟨b3, rfl, (gr1.trans hS4).trans' ch5 (by rintro b hb rfl; omega), by omega, by omega, (hB1.gr hS4).ch ch5 (by omega), hB5⟩
end Go.Proofs.YtmcfbinkofoagaaGreat
