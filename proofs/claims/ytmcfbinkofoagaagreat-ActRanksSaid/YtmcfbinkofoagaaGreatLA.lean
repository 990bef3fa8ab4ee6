/- The ledger in memory, and what its functions that only read answer. -/
import Derived.Test.YtmcfbinkofoagaaGreatGI2
import Derived.Test.YtmcfbinkofoagaaGreatL1
namespace Go.Proofs.YtmcfbinkofoagaaGreat.Sx
open Go Go.RowKit

/-- A value that is an iterator over these items. -/
def IterV (P : Program) (v : Value) (items : List (List Value)) (B : Nat → Prop) (w : World) : Prop :=
  ∃ gf cap, v = .func (.func gf) #[] cap.toArray ∧ isFn P gf = true ∧ ∀ w1, Grow w w1 → IterOk P gf cap items B w1
end Go.Proofs.YtmcfbinkofoagaaGreat.Sx
namespace Go.Proofs.YtmcfbinkofoagaaGreat
open Go Go.RowKit Sx Go.Proofs

/-- The items of a row. -/
def rowI (a : Int) (G : List ((Int × Int) × Int)) : List (List Value) := (rowOf a G).map fun x => [.int .i64 x.1, .int .i64 x.2]

theorem c113 {w : World} {gb : Nat} {p : Option Addr} {n c : Nat} {a : Int} {G : List ((Int × Int) × Int)} (hg : Grd w gb (.slice p n c) 3 (gcs encI G) 155 G.length) (hG : G.length ≤ 1000000) :
    Calls Tryz.prog 113 #[.pointer (some ⟨gb, 0, none⟩), .int .i64 a] w (Ret fun v w' => Grow w w' ∧ ∃ B, IterV Tryz.prog v (rowI a G) B w' ∧ ∀ b, B b → (inSl (.slice p n c) b ∨ w.heap.size ≤ b) ∧ b < w'.heap.size) := by
  have c115 : Calls Tryz.prog 115 #[.pointer (some ⟨gb, 0, none⟩), .int .i64 0, .int .i64 a] w (Ret fun v w' => Grow w w' ∧ ∃ B, IterV Tryz.prog v (rowI a G) B w' ∧ ∀ b, B b → (inSl (.slice p n c) b ∨ w.heap.size ≤ b) ∧ b < w'.heap.size) := by
    refine calls_of_rx (args := [_, _, _]) (e := [(0, _), (1, _), (2, _)]) (n := 8) Tryz.func115 rfl rfl rfl (by kernel_rfl) rfl ?_
    have hC := Ch.refl Nil w
    refine RX.seq ?_; refine RX.region ?_; refine RU.lo (L.bx hC rfl fun b1 w1 hb1 le1 hC1 gr1 hz1 hB1 => ?_); have l2_hB1 := hB1.lt; refine RU.lo (L.bx hC1 rfl fun b2 w2 hb2 le2 hC2 gr2 hz2 hB2 => ?_); have hB1 := hB1.gr gr2
    have l3_hB2 := hB2.lt; have l3_hB1 := hB1.lt; refine RU.lo (L.bx hC2 rfl fun b3 w3 hb3 le3 hC3 gr3 hz3 hB3 => ?_); have hB2 := hB2.gr gr3; have hB1 := hB1.gr gr3; refine RU.rd (V.as rfl) ?_; refine RU.nil ?_
    refine RX.seq ?_; refine RX.region ?_; refine RU.rd (V.fn rfl) ?_; refine RU.rd (V.as rfl) ?_; refine RU.nil ?_; refine RX.rt Tryz.func115 (by rfl) (ResOk.tmp rfl (ResOk.nil)) ?_
    refine ⟨hC3, _, ⟨_, _, rfl, fn116, fun w1 g1 => it116 (hB1.gr g1) (hB2.gr g1) (hB3.gr g1) ((hg.gr hC3).gr g1) hG⟩, ?_⟩
    have h1 := hg.rd.lt
    have h2 := hB2.lt
    have h3 := hB3.lt
    have h4 := hC3.size
    rintro b (h | rfl | rfl)
    · exact ⟨.inl h, by have := h1 b h; omega⟩
    · exact ⟨.inr le2, h2⟩
    · exact ⟨.inr le3, h3⟩
  refine calls_of_rx (args := [_, _]) (e := [(0, _), (1, _)]) (n := 8) Tryz.func113 rfl rfl rfl (by kernel_rfl) rfl ?_
  have hC := Ch.refl Nil w
  refine RX.seq ?_; refine RX.region ?_; refine RU.rd (V.as rfl) ?_; refine RU.nil ?_; refine RX.seq ?_; refine RX.region ?_; refine RU.rd (V.mv rfl) ?_; refine RU.rd (V.mv rfl) ?_
  refine RU.lo (L.call fn115 rfl c115 ?_)
  rintro v w1 ⟨g1, B, hv, hB⟩
  refine RU.rd (V.as rfl) ?_; refine RU.nil ?_; refine RX.rt Tryz.func113 (by rfl) (ResOk.tmp rfl (ResOk.nil)) ?_
  exact ⟨g1, B, hv, hB⟩

/-- Balances, and locks by accounts and ids. -/
structure Led where
  acc : List (Int × Int)
  locks : List ((Int × Int) × Int)
def accE (x : Int × Int) : List Value := [.int .i64 x.1, .int .i64 x.2]
def accC (l : List (Int × Int)) : List Value := rws accE l
theorem accE_length (x : Int × Int) : (accE x).length = 2 := rfl
theorem accC_at (l : List (Int × Int)) (sp : List Value) (i : Nat) (h : i < l.length) : ((accC l ++ sp).drop (0 + i * 2)).take 2 = [.int .i64 l[i].1, .int .i64 l[i].2] := by rw [Nat.zero_add]; exact rws_at accE_length sp l i h
theorem accC_at0 (l : List (Int × Int)) (sp : List Value) (i : Nat) (h : i < l.length) : (accC l ++ sp)[0 + i * 2 + 0]? = some (.int .i64 l[i].1) := rws_get0 accE_length sp l i 0 h (by decide)
theorem accC_at1 (l : List (Int × Int)) (sp : List Value) (i : Nat) (h : i < l.length) : (accC l ++ sp)[0 + i * 2 + 1]? = some (.int .i64 l[i].2) := rws_get0 accE_length sp l i 1 h (by decide)
theorem accC_set0 (l : List (Int × Int)) (sp : List Value) (i : Nat) (h : i < l.length) (x : Int) : setAt (accC l ++ sp) (0 + i * 2 + 0) [.int .i64 x] = accC (l.set i (x, l[i].2)) ++ sp :=
  rws_set0 accE_length sp l i 0 h _ _ (by simp) (by simp [accE, setAt])
theorem accC_set1 (l : List (Int × Int)) (sp : List Value) (i : Nat) (h : i < l.length) (x : Int) : setAt (accC l ++ sp) (0 + i * 2 + 1) [.int .i64 x] = accC (l.set i (l[i].1, x)) ++ sp :=
  rws_set0 accE_length sp l i 1 h _ _ (by simp) (by simp [accE, setAt])
/-- Where a ledger lies. -/
structure LG where
  lb : Nat
  ab : Nat
  c : Nat
  sp : List Value
  gb : Nat
  gp : Option Addr
  gc : Nat
def LG.foot (g : LG) (b : Nat) : Prop := b = g.lb ∨ b = g.ab ∨ b = g.gb ∨ ∃ n, inSl (.slice g.gp n g.gc) b
structure LedAt (w : World) (g : LG) (D : Led) : Prop where
  hb : Blk w g.lb [.slice (some ⟨g.ab, 0, none⟩) 10 g.c, .pointer (some ⟨g.gb, 0, none⟩)] 106
  ha : Blk w g.ab (accC D.acc ++ g.sp) 93
  hl : D.acc.length = 10
  hg : Grd w g.gb (.slice g.gp D.locks.length g.gc) 3 (gcs encI D.locks) 155 D.locks.length
  hk : D.locks.length ≤ 1000
  ne1 : g.lb ≠ g.ab
  ne2 : g.lb ≠ g.gb
  ne3 : g.ab ≠ g.gb
  ne4 : ∀ n, ¬ inSl (.slice g.gp n g.gc) g.lb
  ne5 : ∀ n, ¬ inSl (.slice g.gp n g.gc) g.ab
theorem LedAt.ch {w w1 : World} {g : LG} {D : Led} {S : Nat → Prop} (h : LedAt w g D) (hc : Ch S w w1) (hs : ∀ b, g.foot b → ¬ S b) : LedAt w1 g D :=
  ⟨h.hb.ch hc (hs _ (.inl rfl)), h.ha.ch hc (hs _ (.inr (.inl rfl))), h.hl, h.hg.ch hc (fun b hb => hs b (hb.elim (fun h => .inr (.inr (.inl h))) fun h => .inr (.inr (.inr ⟨_, h⟩)))), h.hk, h.ne1, h.ne2, h.ne3, h.ne4, h.ne5⟩
theorem LedAt.gr {w w1 : World} {g : LG} {D : Led} (h : LedAt w g D) (hc : Grow w w1) : LedAt w1 g D := h.ch hc fun _ _ => id
theorem LedAt.lt {w : World} {g : LG} {D : Led} (h : LedAt w g D) : ∀ b, g.foot b → b < w.heap.size := by
  rintro b (rfl | rfl | rfl | ⟨n, hb⟩)
  · exact h.hb.lt
  · exact h.ha.lt
  · exact h.hg.sb.lt
  · exact h.hg.rd.lt b (inSl.any hb)

def Led.is (a : Int) : Prop := 0 ≤ a ∧ a < 10
instance (a : Int) : Decidable (Led.is a) := inferInstanceAs (Decidable (_ ∧ _))
def Led.at (D : Led) (a : Int) : Int × Int := if Led.is a then D.acc.getD a.toNat (0, 0) else (0, 0)
theorem Led.at_of {D : Led} {a : Int} (h0 : 0 ≤ a) (h1 : a.toNat < D.acc.length) (h2 : D.acc.length = 10) : D.at a = D.acc[a.toNat] := by
  have : Led.is a := ⟨h0, by omega⟩
  rw [Led.at, if_pos this]; simp [List.getD, h1]
theorem Led.at_no {D : Led} {a : Int} (h : ¬ Led.is a) : D.at a = (0, 0) := by rw [Led.at, if_neg h]

theorem c30 {w : World} {g : LG} {D : Led} {a : Int} (h : LedAt w g D) : Calls Tryz.prog 30 #[.pointer (some ⟨g.lb, 0, none⟩), .int .i64 a] w
    (Ret fun v w' => v = .tuple #[.agg #[.int .i64 (D.at a).1, .int .i64 (D.at a).2], .bool (decide (Led.is a))] ∧ Grow w w') := by
  have hb := h.hb
  have ha := h.ha
  have hl := h.hl
  have at1 := accC_at D.acc g.sp
  refine calls_of_rx (args := [_, _]) (e := [(0, _), (1, _)]) (n := 29) Tryz.func30 rfl rfl rfl (by kernel_rfl) rfl ?_
  have hC := Ch.refl Nil w
  refine RX.seq ?_; refine RX.region ?_; refine RU.lo (L.al hC z93 fun b1 w1 hb1 le1 hC1 gr1 hz1 hB1 => ?_); refine RU.rd (V.as rfl) ?_; refine RU.nil ?_; refine RX.seq ?_; refine RX.seq ?_; refine RX.region ?_
  refine RU.rd (V.mv rfl) ?_; refine RU.rd (V.eqNil u31 rfl rfl) ?_; refine RU.rd (V.mv rfl) ?_; refine RU.rdG rfl rfl (V.mv rfl) ?_; refine RU.rdG rfl rfl (V.lss rfl rfl) ?_; refine RU.rd (V.pickF rfl rfl) ?_
  refine RU.rd (V.mv rfl) ?_; refine RU.splitD (fun h1 => ?_) fun h1 => ?_
  · refine RU.sk rfl rfl rfl ?_; refine RU.sk rfl rfl rfl ?_; refine RU.sk rfl rfl rfl ?_; refine RU.sk rfl rfl rfl ?_; refine RU.sk rfl rfl rfl ?_; refine RU.sk rfl rfl rfl ?_; refine RU.sk rfl rfl rfl ?_
    refine RU.rd (V.pickT rfl rfl) ?_; refine RU.nil ?_; refine RX.condT rfl ?_; refine RX.seq ?_; refine RX.region ?_; refine RU.rd (V.bld bf93 z93 rfl rfl) ?_
    refine RU.lo0 (L.stN hC1 sz93 rfl rfl rfl rfl hB1 rfl le1 fun w2 hC2 ch2 hz2 hB1 => ?_); refine RU.rd (V.as rfl) ?_; refine RU.nil ?_
    refine RX.rt Tryz.func30 (by rfl) (ResOk.cellA rfl a93 hB1 (Nat.le_of_ble_eq_true rfl) (us := [_, _]) rfl (ResOk.tmp rfl (ResOk.nil))) ?_
    exact ⟨by rw [Led.at_no (by unfold Led.is; omega), decide_eq_false (by unfold Led.is; omega)]; rfl, by assumption⟩
  · refine RU.rdG rfl rfl (V.mv rfl) ?_; refine RU.rdG rfl rfl (V.mv rfl) ?_; refine RU.rdG rfl rfl (V.nck rfl) ?_; refine RU.rdG rfl rfl (V.fld0 f106_0 rfl) ?_
    refine RU.rdG rfl rfl (V.ld s104 rfl (cur (hb.gr gr1)) rfl) ?_; refine RU.rdG rfl rfl (V.len u104 rfl) ?_; refine RU.rdG rfl rfl (V.geq rfl rfl) ?_; refine RU.rd (V.pickF rfl rfl) ?_; refine RU.nil ?_
    refine RX.condD rfl (fun h2 => ?_) fun h2 => ?_
    · refine RX.seq ?_; refine RX.region ?_; refine RU.rd (V.bld bf93 z93 rfl rfl) ?_; refine RU.lo0 (L.stN hC1 sz93 rfl rfl rfl rfl hB1 rfl le1 fun w2 hC2 ch2 hz2 hB1 => ?_); refine RU.rd (V.as rfl) ?_
      refine RU.nil ?_; refine RX.rt Tryz.func30 (by rfl) (ResOk.cellA rfl a93 hB1 (Nat.le_of_ble_eq_true rfl) (us := [_, _]) rfl (ResOk.tmp rfl (ResOk.nil))) ?_
      exact ⟨by rw [Led.at_no (by unfold Led.is; omega), decide_eq_false (by unfold Led.is; omega)]; rfl, by assumption⟩
    · refine RX.skip ?_; refine RX.seq ?_; refine RX.region ?_; refine RU.rd (V.mv rfl) ?_; refine RU.rd (V.nck rfl) ?_; refine RU.rd (V.fld0 f106_0 rfl) ?_; refine RU.rd (V.ld s104 rfl (cur (hb.gr gr1)) rfl) ?_
      refine RU.rd (V.mv rfl) ?_; refine RU.rd (V.idx e104 rfl rfl (by omega)) ?_; refine RU.rd (V.ldA a93 rfl (cur (ha.gr gr1)) rfl (at1 _ (by omega))) ?_
      refine RU.lo0 (L.stN hC1 sz93 rfl rfl rfl rfl hB1 rfl le1 fun w2 hC2 ch2 hz2 hB1 => ?_); refine RU.rd (V.as rfl) ?_; refine RU.nil ?_
      refine RX.rt Tryz.func30 (by rfl) (ResOk.cellA rfl a93 hB1 (Nat.le_of_ble_eq_true rfl) (us := [_, _]) rfl (ResOk.tmp rfl (ResOk.nil))) ?_
      exact ⟨by rw [Led.at_of (by omega) (by omega) hl, decide_eq_true (show Led.is a from ⟨by omega, by omega⟩)]; rfl, by assumption⟩
end Go.Proofs.YtmcfbinkofoagaaGreat
