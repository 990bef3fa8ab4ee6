/- Referenda are cancelled and killed. -/
import Derived.Test.YtmcfbinkofoagaaGreatSB
namespace Go.Proofs.YtmcfbinkofoagaaGreat
open Go Go.RowKit Sx Go.Proofs

/-- Of a referendum that nobody has backed. -/
def RsOk (rs : List Rfd) : Prop := ∀ x ∈ rs, x.state = 1 → x.fin = 0 ∧ x.put = true ∧ x.backer = -1 ∧ 0 ≤ x.who ∧ x.who ≤ 9
theorem RsOk.at {rs : List Rfd} (h : RsOk rs) {b : Int} (h1 : (refAt rs b).state = 1) : (refAt rs b).fin = 0 ∧ (refAt rs b).put = true ∧ (refAt rs b).backer = -1 ∧ 0 ≤ (refAt rs b).who ∧ (refAt rs b).who ≤ 9 := by
  unfold refAt at *
  split at h1
  · rename_i h0
    rw [if_pos h0]
    by_cases hb : b.toNat < rs.length
    · have e : rs.getD b.toNat zeroR = rs[b.toNat] := by simp [hb]
      rw [e] at h1 ⊢
      exact h _ (List.getElem_mem hb) h1
    · have e : rs.getD b.toNat zeroR = zeroR := by simp [show rs.length ≤ b.toNat by omega]
      rw [e] at h1; simp [zeroR] at h1
  · simp [zeroR] at h1
theorem ongE_ok {rs : List Rfd} {b : Int} (h : ongE rs b = 0) : (0 ≤ b ∧ b < rs.length) ∧ (refAt rs b).state = 1 := by
  unfold ongE at h
  split at h
  · omega
  · split at h
    · omega
    · rename_i h1 h2
      exact ⟨Decidable.not_not.1 h1, Decidable.not_not.1 h2⟩
theorem refAt_set {rs : List Rfd} {b : Int} (h : 0 ≤ b ∧ b < rs.length) (y : Rfd) : refAt (rs.set b.toNat y) b = y := by
  rw [refAt_in h.1 (by rw [List.length_set]; omega), List.getElem_set_self]
def canR (rs : List Rfd) (b s now : Int) : List Rfd := if ongE rs b = 0 then rs.set b.toNat (endR (refAt rs b) s now) else rs
theorem c62 {w : World} {q : QG} {pk : Nat → Nat} {gv : Value} {D : Led} {rs : List Rfd} {b now : Int} (h : QAt w q pk gv D rs) (hk : RsOk rs) :
    Calls Tryz.prog 62 #[.pointer (some ⟨q.rb, 0, none⟩), .pointer (some ⟨q.vb, 0, none⟩), .int .i64 b, .int .i64 now] w
    (Ret fun v w' => ∃ s gv', v = .tuple #[s, .int .i64 (ongE rs b)] ∧ Own w.heap.size w' 3 52 s (evsC (if ongE rs b = 0 then [(1, b, 5)] else [])) ∧ Ch (fun x => x = q.gb ∨ b.toNat < rs.length ∧ x = pk b.toNat) w w' ∧ QAt w' q pk gv' D (canR rs b 5 now) ∧ ∀ c, inSl gv' c → inSl gv c ∨ w.heap.size ≤ c) := by
  have hn := h.hn
  refine calls_of_rx (args := [_, _, _, _]) (e := [(0, _), (1, _), (2, _), (3, _)]) (n := 29) Tryz.func62 rfl rfl rfl (by kernel_rfl) rfl ?_
  have hC := Ch.refl (fun x => x = q.gb ∨ b.toNat < rs.length ∧ x = pk b.toNat) w
  have uq := True.intro
  refine RX.seq ?_; refine RX.region ?_; refine RU.rd (V.as rfl) ?_; refine RU.rd (V.as rfl) ?_; refine RU.nil ?_; refine RX.seq ?_; refine RX.seq ?_; refine RX.region ?_; refine RU.rd (V.mv rfl) ?_
  refine RU.rd (V.eqNil u33 rfl rfl) ?_; refine RU.rd (V.mv rfl) ?_; refine RU.rdG rfl rfl (V.mv rfl) ?_; refine RU.rdG rfl rfl (V.eqNil u32 rfl rfl) ?_; refine RU.rd (V.pickF rfl rfl) ?_; refine RU.nil ?_
  refine RX.condF rfl ?_; refine RX.skip ?_; refine RX.seq ?_; refine RX.seq ?_; refine RX.region ?_; refine RU.rd (V.mv rfl) ?_; refine RU.rd (V.mv rfl) ?_
  refine RU.lo (L.call fn87 rfl (c87 (b := b) h.hr h.hg (by omega)) ?_)
  rintro _ w1 ⟨rfl, gr1⟩
  have hC1 := hC.trans (.of_grow gr1)
  refine RU.rd (V.as rfl) ?_; refine RU.nil ?_; refine RX.seq ?_; refine RX.region ?_; refine RU.rd (V.mv rfl) ?_; refine RU.rd (V.neq rfl rfl) ?_; refine RU.nil ?_; refine RX.condD rfl (fun h1 => ?_) fun h1 => ?_
  · have he : ongE rs b ≠ 0 := by assumption
    unfold canR
    rw [if_neg he, if_neg he]
    refine RX.seq ?_; refine RX.region ?_; refine RU.rd (V.mv rfl) ?_; refine RU.rd (V.as rfl) ?_; refine RU.rd (V.as rfl) ?_; refine RU.nil ?_; refine RX.rt Tryz.func62 (by rfl) (ResOk.tmp rfl (ResOk.tmp rfl (ResOk.nil))) ?_
    exact ⟨_, gv, rfl, .nil, hC1, h.gr gr1, fun c hc => .inl hc⟩
  · have he : ongE rs b = 0 := Decidable.not_not.1 ‹¬ongE rs b ≠ 0›
    have ⟨e1, e2⟩ := ongE_ok he
    have e3 := hk.at e2
    unfold canR
    rw [if_pos he, if_pos he, he]
    refine RX.skip ?_; refine RX.seq ?_; refine RX.region ?_; refine RU.rd (V.mv rfl) ?_; refine RU.rd (V.mv rfl) ?_; refine RU.rd (V.mv rfl) ?_; refine RU.rd (V.mv rfl) ?_
    refine RU.lo (L.call fn88 rfl (c88 (s := 5) (now := now) (h.gr gr1) e1 e2 e3.1 (by omega)) ?_)
    rintro _ w2 ⟨gv', rfl, ch2, hQ2, lo2⟩
    have hC2 := hC1.trans' ch2 (fun _ _ h => h.imp id fun h => ⟨by omega, h⟩)
    refine RU.lo (L.bsl hC2 e27 z52 rfl rfl rfl rfl fun b3 w3 hb3 le3 hC3 gr3 hz3 hB3 => ?_); refine RU.rd (V.as rfl) ?_; refine RU.rd (V.as rfl) ?_; refine RU.nil ?_
    refine RX.rt Tryz.func62 (by rfl) (ResOk.tmp rfl (ResOk.tmp rfl (ResOk.nil))) ?_
    exact ⟨_, gv', rfl, .some le3 hB3 rfl rfl rfl (by decide), hC3, hQ2.gr gr3, fun c hc => .inr (by have := lo2 c hc; have := gr1.size; omega)⟩
theorem c89 {w : World} {g : LG} {D : Led} {who n : Int} {lp ob o : Nat} {u : Value} {evs : List (Int × Int × Int)} (h : LedAt w g D) (hD : D.Ok) (hlp : Blk w lp [.pointer (some ⟨g.lb, 0, none⟩)] 31) (hob : Blk w ob [u] 27) (hu : Own o w 3 52 u (evsC evs)) (ho : o ≤ w.heap.size)
    (hn : evs.length ≤ 1000) (n1 : lp ≠ g.ab) (n2 : ob ≠ g.ab) (n3 : ¬ inSl u g.ab) (n4 : ¬ inSl u ob) (n5 : ∀ b, inSl u b → ¬ g.foot b) (n6 : ¬ g.foot ob) :
    Calls Tryz.prog 89 #[.int .i64 who, .int .i64 n, .pointer (some ⟨ob, 0, none⟩), .pointer (some ⟨lp, 0, none⟩)] w
    (Ret fun v w' => v = .tuple #[] ∧ ∃ u', Ch (fun x => x = g.ab ∨ x = ob ∨ inSl u x) w w' ∧ LedAt w' g (D.sla who n) ∧ Blk w' ob [u'] 27 ∧ Own o w' 3 52 u' (evsC (evs ++ [(6, who, D.tk who n)])) ∧ ∀ b, inSl u' b → inSl u b ∨ w.heap.size ≤ b) := by
  refine calls_of_rx (args := [_, _, _, _]) (e := [(0, _), (1, _), (2, _), (3, _)]) (n := 15) Tryz.func89 rfl rfl rfl (by kernel_rfl) rfl ?_
  have hC := Ch.refl (fun x => x = g.ab ∨ x = ob ∨ inSl u x) w
  have uq := True.intro
  refine RX.draw (Ch (· = g.ab) w) [0, 1, 2, 3, 4, 6] [(0, true), (1, true), (2, true), (3, true), (4, true), (5, false), (6, true), (7, false), (8, false), (9, false)] mixed (by kernel_rfl) fun w1 gr1 hz1 => ?_
  have hC1 := hC.trans (.of_grow gr1)
  have hS1 : Ch (· = g.ab) w w1 := .of_grow gr1
  refine RD.rd rfl rfl hS1 (V.ld s27 rfl (fun _ hS => hob.ch hS (by first | assumption | omega | (dsimp only; omega) | (simp; omega))) rfl) ?_; refine RD.rd rfl rfl hS1 (V.mv rfl) ?_
  refine RD.rd rfl rfl hS1 (V.ld s31 rfl (fun _ hS => hlp.ch hS (by first | assumption | omega | (dsimp only; omega) | (simp; omega))) rfl) ?_; refine RD.rd rfl rfl hS1 (V.mv rfl) ?_; refine RD.rd rfl rfl hS1 (V.mv rfl) ?_
  refine RD.lo rfl (L.call fn90 rfl (c90 (h.gr gr1) hD) ?_)
  rintro _ w2 ⟨rfl, ch2, hL2⟩
  have hS2 : Ch (· = g.ab) w w2 := hS1.trans ch2
  have hC2 : Ch (fun x => x = g.ab ∨ x = ob ∨ inSl u x) w w2 := hC1.trans' ch2 (fun _ _ h => .inl h)
  refine ⟨hS2, ?_⟩
  have z2 := hS2.size
  refine RD.rd rfl rfl hS2 (V.bld bf52 z52 rfl rfl) ?_; refine RD.lo rfl (L.bsl hC2 e27 z52 rfl rfl rfl rfl fun b3 w3 hb3 le3 hC3 gr3 hz3 hB3 => ⟨hS2.trans (Ch.of_grow gr3), ?_⟩); have hS3 := hS2.trans (Ch.of_grow gr3)
  have hu3 := ((hu.ch hS2 (by rintro b hb rfl; exact n3 hb))).gr gr3
  have hln := evsC_len evs
  refine RD.lf rfl (by kernel_rfl) (L.appS hC3 e27 u27 z52 rfl by52 rfl rfl hu3 (by have := gr3.size; omega) (show Rd w3 3 (.slice (some ⟨b3, 0, none⟩) 1 1) 1 (evC (6, who, D.tk who n)) from .some (n := 1) hB3 (Nat.le_refl _) rfl) rfl rfl (by rw [hln]; simp [evC]; omega) (fun b _ hb => .inr (.inr hb)) fun u' w4 hC4 ch4 hu4 hin4 => ?_)
  have hob4 := (((hob.ch hS2 n2).gr gr3).ch ch4 n4)
  have lob := hob4.lt
  obtain ⟨pu, nu, cu, rfl⟩ := hu4.isSl
  have nb : ob < w.heap.size := hob.lt
  have eo : evsC evs ++ evC (6, who, D.tk who n) = evsC (evs ++ [(6, who, D.tk who n)]) := by simp only [evsC, rws_append]; simp [rws]
  rw [eo] at hu4
  refine RD.lf0 rfl (by kernel_rfl) (L.st hC4 sz27 rfl rfl rfl rfl hob4 (Nat.le_of_ble_eq_true rfl) (.inr (.inr (.inl rfl))) fun w5 hC5 ch5 hz5 hB5 => ?_)
  refine RD.nil ?_; refine RX.rtEnd Tryz.func89 (by rfl) (ResOk.nil) ?_
  have hin : ∀ b, inSl (.slice pu nu cu) b → inSl u b ∨ w.heap.size ≤ b := fun b hb => by
    rcases hin4 b hb with h | h
    · exact .inl h
    · exact .inr (by have := gr3.size; omega)
  refine ⟨rfl, _, hC5, ((hL2.gr gr3).ch ch4 (fun b hb hs => n5 b hs hb)).ch ch5 (by rintro b hb rfl; exact n6 hb), hB5, hu4.ch ch5 (by rintro b hb rfl; rcases hin _ hb with h | h; exact n4 h; omega), hin⟩

theorem Led.sla_ok {D : Led} (ho : D.Ok) (hl : D.acc.length = 10) (a n : Int) : (D.sla a n).Ok ∧ (D.sla a n).locks = D.locks ∧ (D.sla a n).acc.length = 10 := by
  have h1 := Led.tks_ok ho hl a n
  have h2 := Led.tk_nn (D := D) a n
  have hl2 : (D.tks a n).acc.length = 10 := by rw [Led.tks_len]; exact hl
  have h3 := h1.1.at hl2 0
  have h4 := ho.2
  unfold Led.sla Led.inc
  split
  · refine ⟨Led.put_ok h1.1 hl2 is0 ⟨by dsimp only; omega, by dsimp only; omega⟩ (by dsimp only; omega), Led.tks_lk a n, by rw [Led.put_len]; exact hl2⟩
  · exact ⟨h1.1, Led.tks_lk a n, hl2⟩
section
variable {w w1 : World} {q : QG} {pk : Nat → Nat} {gv gv' : Value} {D D' : Led} {rs : List Rfd} {S : Nat → Prop}
theorem QAt.led (h : QAt w q pk gv D rs) (hc : Ch S w w1) (hs : ∀ b, q.foot pk gv rs.length b → ¬ q.g.foot b → ¬ S b) (hl : LedAt w1 q.g D') (ho : D'.Ok) (hk : D'.locks = []) : QAt w1 q pk gv D' rs := by
  have ng : ∀ b, q.tb ≤ b → ¬ q.g.foot b := fun b hb hf => by have := h.o1 b hf; omega
  have o2 := h.o2
  have o3 := h.o3
  have o4 := h.o4
  have o5 := h.o5
  refine ⟨hl, h.hv.ch hc (hs _ (.inr (.inl rfl)) (ng _ (by omega))), fun i hi => (h.hp i hi).ch hc (hs _ (.inr (.inr (.inl ⟨i, hi, rfl⟩))) (ng _ (by have := h.o6 i hi; omega))), h.hr.ch hc (hs _ (.inr (.inr (.inr (.inl rfl)))) (ng _ (by omega))),
    h.ht.ch hc (hs _ (.inr (.inr (.inr (.inr (.inl rfl))))) (ng _ (by omega))), h.hg.ch hc (fun b hb => ?_), h.hn, hk, ho, h.o1, h.o2, h.o3, h.o4, h.o5, h.o6, h.o7, h.o8, h.o9⟩
  rcases hb with rfl | hb
  · exact hs _ (.inr (.inr (.inr (.inr (.inr (.inl rfl)))))) (ng _ (by omega))
  · exact hs _ (.inr (.inr (.inr (.inr (.inr (.inr hb)))))) (ng _ (by have := h.o7 b hb; omega))
/-- A referendum is laid anew, but for what its poll is told. -/
theorem QAt.put (h : QAt w q pk gv D rs) {i : Nat} {y : Rfd} (hi : i < rs.length) (h1 : y.track = rs[i].track) (h2 : polS y = polS rs[i]) (h3 : y.fin = rs[i].fin) (hc : Ch (· = q.gb) w w1) (hg : RGrd w1 q.gb gv' (rs.set i y)) (hn : ∀ b, inSl gv' b → w.heap.size ≤ b) : QAt w1 q pk gv' D (rs.set i y) := by
  have o1 := h.o1
  have o2 := h.o2
  have o3 := h.o3
  have o4 := h.o4
  have o5 := h.o5
  have hlt := h.lt
  have hle : (rs.set i y).length = rs.length := List.length_set ..
  have lpk := hlt (pk i) (.inr (.inr (.inl ⟨_, hi, rfl⟩)))
  have o6 := h.o6 i hi
  refine ⟨h.hl.ch hc (fun x hx hs => by have := o1 x hx; omega), by rw [hle]; exact h.hv.ch hc (by omega), fun j hj => ?_, h.hr.ch hc (by omega), h.ht.ch hc (by omega), hg, by rw [hle]; exact h.hn, h.hk, h.ho, o1, o2, o3, o4, o5,
    fun j hj => h.o6 j (by rw [← hle]; exact hj), fun c hc => by have := hn c hc; omega, fun j hj hc => by have := hn _ hc; have := hlt (pk j) (.inr (.inr (.inl ⟨j, by rw [← hle]; exact hj, rfl⟩))); omega,
    fun a b ha hb => h.o9 a b (by rw [← hle]; exact ha) (by rw [← hle]; exact hb)⟩
  have hj' : j < rs.length := by rw [← hle]; exact hj
  have o7 := h.o6 j hj'
  rw [set_at rs _ hj' hj]
  by_cases e : i = j
  · subst e
    rw [if_pos rfl, h1, h2, h3]
    exact (h.hp i hi).ch hc (by omega)
  · rw [if_neg e]
    exact (h.hp j hj').ch hc (by omega)
end
/-- A referendum has been killed. -/
def killR (x : Rfd) (now : Int) : Rfd := { endR x 6 now with put := false, backer := -1 }
set_option maxRecDepth 100000 in
set_option maxHeartbeats 1000000 in
theorem c63 {w : World} {q : QG} {pk : Nat → Nat} {gv : Value} {D : Led} {rs : List Rfd} {b now : Int} (h : QAt w q pk gv D rs) (hk : RsOk rs) :
    Calls Tryz.prog 63 #[.pointer (some ⟨q.rb, 0, none⟩), .pointer (some ⟨q.g.lb, 0, none⟩), .pointer (some ⟨q.vb, 0, none⟩), .int .i64 b, .int .i64 now] w
    (Ret fun v w' => ∃ s gv', v = .tuple #[s, .int .i64 (ongE rs b)] ∧ Own w.heap.size w' 3 52 s (evsC (if ongE rs b = 0 then [(1, b, 6), (6, (refAt rs b).who, D.tk (refAt rs b).who 10)] else [])) ∧ Ch (fun x => x = q.g.ab ∨ x = q.gb ∨ b.toNat < rs.length ∧ x = pk b.toNat) w w' ∧
      QAt w' q pk gv' (if ongE rs b = 0 then D.sla (refAt rs b).who 10 else D) (if ongE rs b = 0 then rs.set b.toNat (killR (refAt rs b) now) else rs) ∧ ∀ c, inSl gv' c → inSl gv c ∨ w.heap.size ≤ c) := by
  have hn := h.hn
  refine calls_of_rx (args := [_, _, _, _, _]) (e := [(0, _), (1, _), (2, _), (3, _), (4, _)]) (n := 78) Tryz.func63 rfl rfl rfl (by kernel_rfl) rfl ?_
  have hC := Ch.refl (fun x => x = q.g.ab ∨ x = q.gb ∨ b.toNat < rs.length ∧ x = pk b.toNat) w
  have uq := True.intro
  refine RX.seq ?_; refine RX.region ?_; refine RU.lo (L.bx hC rfl fun b1 w1 hb1 le1 hC1 gr1 hz1 hB1 => ?_); refine RU.rd (V.as rfl) ?_; refine RU.rd (V.as rfl) ?_; refine RU.nil ?_; refine RX.seq ?_; refine RX.seq ?_
  refine RX.region ?_; refine RU.rd (V.mv rfl) ?_; refine RU.rd (V.eqNil u33 rfl rfl) ?_; refine RU.rd (V.mv rfl) ?_; refine RU.rdG rfl rfl (V.ld s31 rfl (cur hB1) rfl) ?_; refine RU.rdG rfl rfl (V.eqNil u31 rfl rfl) ?_
  refine RU.rd (V.pickF rfl rfl) ?_; refine RU.rd (V.mv rfl) ?_; refine RU.rdG rfl rfl (V.mv rfl) ?_; refine RU.rdG rfl rfl (V.eqNil u32 rfl rfl) ?_; refine RU.rd (V.pickF rfl rfl) ?_; refine RU.nil ?_
  refine RX.condF rfl ?_; refine RX.skip ?_; refine RX.seq ?_; refine RX.seq ?_; refine RX.region ?_; refine RU.rd (V.mv rfl) ?_; refine RU.rd (V.mv rfl) ?_
  have G1 := gr1
  refine RU.lo (L.call fn87 rfl (c87 (b := b) (h.gr G1).hr (h.gr G1).hg (by omega)) ?_)
  rintro _ w2 ⟨rfl, gr2⟩
  have hC2 := hC1.trans (.of_grow gr2)
  replace hB1 := hB1.gr gr2
  have G2 := G1.trans gr2
  refine RU.rd (V.as rfl) ?_; refine RU.nil ?_; refine RX.seq ?_; refine RX.region ?_; refine RU.rd (V.mv rfl) ?_; refine RU.rd (V.neq rfl rfl) ?_; refine RU.nil ?_; refine RX.condD rfl (fun h1 => ?_) fun h1 => ?_
  · have he : ongE rs b ≠ 0 := by assumption
    rw [if_neg he, if_neg he, if_neg he]
    refine RX.seq ?_; refine RX.region ?_; refine RU.rd (V.mv rfl) ?_; refine RU.rd (V.as rfl) ?_; refine RU.rd (V.as rfl) ?_; refine RU.nil ?_; refine RX.rt Tryz.func63 (by rfl) (ResOk.tmp rfl (ResOk.tmp rfl (ResOk.nil))) ?_
    exact ⟨_, gv, rfl, .nil, hC2, h.gr G2, fun c hc => .inl hc⟩
  · have he : ongE rs b = 0 := Decidable.not_not.1 ‹¬ongE rs b ≠ 0›
    have ⟨e1, e2⟩ := ongE_ok he
    have e3 := hk.at e2
    rw [if_pos he, if_pos he, if_pos he, he]
    have hbn : b.toNat < rs.length := by omega
    have o1 := h.o1
    have o2 := h.o2
    have o3 := h.o3
    have o4 := h.o4
    have o5 := h.o5
    have o6 := h.o6 b.toNat hbn
    have hlt := h.lt
    have lpk := hlt (pk b.toNat) (.inr (.inr (.inl ⟨_, hbn, rfl⟩)))
    have lab := o1 q.g.ab (.inr (.inl rfl))
    refine RX.skip ?_; refine RX.seq ?_; refine RX.region ?_; refine RU.rd (V.mv rfl) ?_; refine RU.rd (V.mv rfl) ?_; refine RU.rd (V.mv rfl) ?_; refine RU.rd (V.mv rfl) ?_
    refine RU.lo (L.call fn88 rfl (c88 (s := 6) (now := now) (h.gr G2) e1 e2 e3.1 (by omega)) ?_)
    rintro _ w3 ⟨gv', rfl, ch3, hQ3, -⟩
    have hC3 : Ch (fun x => x = q.g.ab ∨ x = q.gb ∨ b.toNat < rs.length ∧ x = pk b.toNat) w w3 := hC2.trans' ch3 (fun _ _ h => .inr (h.imp id fun h => ⟨hbn, h⟩))
    have z2 := G2.size
    have z3 := ch3.size
    replace hB1 := hB1.ch ch3 (by omega)
    have nodraw := True.intro
    have l4_hB1 := hB1.lt; refine RU.lo (L.bsl hC3 e27 z52 rfl rfl rfl rfl fun b4 w4 hb4 le4 hC4 gr4 hz4 hB4 => ?_); have hB1 := hB1.gr gr4; have l5_hB4 := hB4.lt; have l5_hB1 := hB1.lt
    refine RU.lo (L.al hC4 z27 fun b5 w5 hb5 le5 hC5 gr5 hz5 hB5 => ?_); have hB4 := hB4.gr gr5; have hB1 := hB1.gr gr5; refine RU.lo0 (L.stN hC5 sz27 rfl rfl rfl rfl hB5 rfl le5 fun w6 hC6 ch6 hz6 hB5 => ?_)
    have hB4 := hB4.ch ch6 (by omega); have hB1 := hB1.ch ch6 (by omega); refine RU.nil ?_; refine RX.seq ?_; refine RX.region ?_; refine RU.rd (V.mv rfl) ?_; refine RU.rd (V.mv rfl) ?_
    clear nodraw
    have G36 : Grow w3 w6 := (gr4.trans gr5).trans' ch6 (by rintro c hc rfl; omega)
    have hQ6 := hQ3.gr G36
    have hle : (rs.set b.toNat (endR (refAt rs b) 6 now)).length = rs.length := List.length_set ..
    obtain ⟨x, hx⟩ : ∃ x, refAt rs b = x := ⟨_, rfl⟩
    rw [hx] at e2 e3 hQ3 hQ6 hle ⊢
    refine RU.lo (L.call fn11 rfl (c11 (b := b) hQ6.hr hQ6.hg (by omega)) ?_)
    rintro _ w7 ⟨rfl, gr7⟩
    have hC7 := hC6.trans (.of_grow gr7)
    replace hB1 := hB1.gr gr7
    replace hB4 := hB4.gr gr7
    replace hB5 := hB5.gr gr7
    rw [refAt_set e1]
    obtain ⟨st, tr, sum, after, subm, who, put, backer, since, till, fin, ayes, nays, supp⟩ := x
    obtain ⟨rfl, rfl, rfl, hw0, hw9⟩ := e3
    obtain rfl : st = 1 := e2
    refine RU.rd (V.mv rfl) ?_; refine RU.rd (V.ext rfl rfl) ?_; refine RU.rd (V.ext rfl rfl) ?_; have l8_hB1 := hB1.lt; have l8_hB4 := hB4.lt; have l8_hB5 := hB5.lt
    refine RU.lo (L.al hC7 z44 fun b8 w8 hb8 le8 hC8 gr8 hz8 hB8 => ?_); have hB1 := hB1.gr gr8; have hB4 := hB4.gr gr8; have hB5 := hB5.gr gr8
    refine RU.lo0 (L.stN hC8 sz44 rfl rfl rfl rfl hB8 rfl le8 fun w9 hC9 ch9 hz9 hB8 => ?_); have hB1 := hB1.ch ch9 (by omega); have hB4 := hB4.ch ch9 (by omega); have hB5 := hB5.ch ch9 (by omega); refine RU.rd (V.as rfl) ?_
    refine RU.nil ?_; refine RX.seq ?_; refine RX.region ?_; refine RU.rd (V.fn rfl) ?_; refine RU.rd (V.as rfl) ?_; refine RU.nil ?_; refine RX.seq ?_; refine RX.seq ?_; refine RX.region ?_
    refine RU.rd (V.fld0 f44_6 rfl) ?_; refine RU.rd (V.ld s4 rfl (cur hB8) rfl) ?_; refine RU.nil ?_; refine RX.condT rfl ?_; refine RX.region ?_; refine RU.rd (V.mv rfl) ?_; refine RU.rd (V.fld0 f44_5 rfl) ?_
    refine RU.rd (V.ld s3 rfl (cur hB8) rfl) ?_
    have hy8 := Blk.cast hB8 (cs' := encR ⟨6, tr, sum, after, subm, who, true, -1, since, till, now, 0, 0, 0⟩) (by kernel_rfl)
    clear hB8
    have G79 : Grow w7 w9 := gr8.trans' ch9 (by rintro c hc rfl; omega)
    have hQ9 := hQ6.gr (gr7.trans G79)
    have y6 := G36.size
    have y7 := gr7.size
    have y9 := G79.size
    have hu9 : Own w.heap.size w9 3 52 (.slice (some ⟨b4, 0, none⟩) 1 1) (evsC [(1, b, 6)]) := .some le4 hB4 rfl rfl rfl (Nat.le_refl _)
    have hob9 : Blk w9 b5 [.slice (some ⟨b4, 0, none⟩) 1 1] 27 := hB5
    have hlp9 : Blk w9 b1 [.pointer (some ⟨q.g.lb, 0, none⟩)] 31 := hB1
    have ltb := h.ht.lt
    have lw9 : w.heap.size ≤ w9.heap.size := by omega
    have nf : ∀ c, w.heap.size ≤ c → ¬ q.g.foot c := fun c hc hf => by have := o1 c hf; omega
    refine RU.lo (L.callV fn89 rfl rfl (c89 (o := w.heap.size) (evs := [(1, b, 6)]) (who := who) (n := 10) hQ9.hl h.ho hlp9 hob9 hu9 lw9 (by simp) (by omega) (by omega) (by rintro ⟨o, n, c, e⟩; cases e; omega) (by rintro ⟨o, n, c, e⟩; cases e; omega) (by rintro c ⟨o, n, c', e⟩; cases e; exact nf _ le4) (nf _ le5)) ?_)
    rintro _ w10 ⟨-, u', ch10, hL10, hB10, hu10, hin10⟩
    have hC10 : Ch (fun x => x = q.g.ab ∨ x = q.gb ∨ b.toNat < rs.length ∧ x = pk b.toNat) w w10 := hC9.trans' ch10 (by
      rintro c hc (rfl | rfl | ⟨o, n, c', e⟩)
      · exact .inl rfl
      · omega
      · cases e; omega)
    have hy10 := hy8.ch ch10 (by
      rintro (e | e | ⟨o, n, c', e⟩)
      · omega
      · omega
      · cases e; omega)
    have hs := Led.sla_ok h.ho h.hl.hl who 10
    have hlt3 := hQ3.lt
    have hQ10 := hQ9.led ch10 (fun c hf ng hs => by
      have := hlt3 c hf
      rcases hs with rfl | rfl | ⟨o, n, c', e⟩
      · exact ng (.inr (.inl rfl))
      · omega
      · cases e; omega) hL10 hs.1 (by rw [hs.2.1]; exact h.hk)
    have hub : ∀ c, inSl u' c → w.heap.size ≤ c := fun c hc => by
      rcases hin10 c hc with ⟨o, n, c', e⟩ | hc
      · cases e; omega
      · omega
    obtain ⟨pu, nu, cu, rfl⟩ := hu10.isSl
    have z10 := ch10.size
    clear hB1 hB4 hB5 hy8 hob9 hlp9 hu9 hQ9 hQ6
    have nodraw := True.intro
    refine RU.nil ?_; refine RX.seq ?_; refine RX.seq ?_; refine RX.region ?_; refine RU.rd (V.fld0 f44_7 rfl) ?_; refine RU.rd (V.ld s3 rfl (cur hy10) rfl) ?_; refine RU.rd (V.neq rfl rfl) ?_; refine RU.nil ?_
    refine RX.condF rfl ?_; refine RX.skip ?_; refine RX.seq ?_; refine RX.region ?_; refine RU.rd (V.fld0 f44_6 rfl) ?_; refine RU.lo0 (L.stN hC10 sz4 rfl rfl rfl rfl hy10 rfl le8 fun w11 hC11 ch11 hz11 hy10 => ?_)
    have hB10 := hB10.ch ch11 (by omega); refine RU.rd (V.fld0 f44_7 rfl) ?_; refine RU.lo0 (L.stN hC11 sz3 rfl rfl rfl rfl hy10 rfl le8 fun w12 hC12 ch12 hz12 hy10 => ?_); have hB10 := hB10.ch ch12 (by omega)
    refine RU.nil ?_; refine RX.seq ?_
    clear nodraw
    have C12 : Ch (· = b8) w10 w12 := ch11.trans ch12
    have hQ12 := hQ10.ch C12 (fun c hf hs => by have := hlt3 c hf; omega)
    have hu12 := hu10.ch C12 (by
      rintro c hc rfl
      rcases hin10 _ hc with ⟨o, n, c', e⟩ | hc
      · cases e; omega
      · omega)
    have hy12 := Blk.cast hy10 (cs' := encR (killR ⟨1, tr, sum, after, subm, who, true, -1, since, till, 0, ayes, nays, supp⟩ now)) (by kernel_rfl)
    have hr12 := hQ12.hr
    clear hy10
    refine RX.draw (Ch Nil w12) [3, 5] [(0, true), (1, true), (2, true), (3, true), (4, true), (5, true), (6, false)] mixed (by kernel_rfl) fun w13 gr13 hz13 => ?_; have hC13 := hC12.trans (Ch.of_grow gr13)
    have hB10d13 := hB10.gr gr13; have hy12d13 := hy12.gr gr13; have hr12d13 := hr12.gr gr13; refine RD.rz rfl (V.mv rfl) ?_; refine RD.rz rfl (V.nck rfl) ?_; refine RD.rz rfl (V.fld0 f90_1 rfl) ?_
    refine RD.rd rfl rfl gr13 (V.ld s88 rfl (fun _ hS => hr12.gr hS) rfl) ?_; refine RD.rz rfl (V.mv rfl) ?_
    refine RD.rd rfl rfl gr13 (V.ldA a44 rfl (fun _ hS => hy12.gr hS) (vs := [_, _, _, _, _, _, _, _, _, _, _, _, _, _, _, _, _, _, _, _, _, _, _, _, _, _, _, _, _, _, _, _, _, _, _, _, _, _, _, _, _, _, _, _, _]) rfl rfl) ?_
    have hg13 := hQ12.hg.gr gr13
    refine RD.lf rfl (by kernel_rfl) (L.call fn54 rfl (c54 (b := b) (x := killR ⟨1, tr, sum, after, subm, who, true, -1, since, till, 0, ayes, nays, supp⟩ now) hg13 (by omega) (by omega)) ?_)
    rintro _ w14 ⟨-, ch14, gv2, hg14, hf14⟩
    have hC14 : Ch (fun x => x = q.g.ab ∨ x = q.gb ∨ b.toNat < rs.length ∧ x = pk b.toNat) w w14 := hC13.trans' ch14 (fun _ _ h => .inr (.inl h))
    have hpr : ∀ y z : Rfd, putR (rs.set b.toNat y) b z = (rs.set b.toNat y).set b.toNat z := fun y z => by unfold putR; rw [if_pos (by rw [List.length_set]; exact e1.2)]
    rw [hpr] at hg14
    have hQ14 := (hQ12.gr gr13).put (i := b.toNat) (by rw [hle]; exact hbn) (by rw [List.getElem_set_self]; rfl) (by rw [List.getElem_set_self]; rfl) (by rw [List.getElem_set_self]; rfl) ch14 hg14 hf14
    rw [List.set_set] at hQ14
    have z12 := C12.size
    have z13 := gr13.size
    have lgb := h.hg.sb.lt
    have hB14 : Blk w14 b5 [.slice pu nu cu] 27 := hB10d13.ch ch14 (by omega)
    have hu14 := (hu12.gr gr13).ch ch14 (by rintro c hc rfl; have := hub _ hc; omega)
    clear hB10d13 hy12d13 hr12d13 hB10 hy12 hr12
    refine RD.nil ?_; refine RX.seq ?_; refine RX.region ?_; refine RU.rd (V.ld s27 rfl (cur hB14) rfl) ?_; refine RU.rd (V.as rfl) ?_; refine RU.rd (V.as rfl) ?_; refine RU.nil ?_
    refine RX.rt Tryz.func63 (by rfl) (ResOk.tmp rfl (ResOk.tmp rfl (ResOk.nil))) ?_
    exact ⟨_, gv2, rfl, hu14, hC14, hQ14, fun c hc => .inr (by have := hf14 c hc; have := hC13.size; omega)⟩
end Go.Proofs.YtmcfbinkofoagaaGreat
