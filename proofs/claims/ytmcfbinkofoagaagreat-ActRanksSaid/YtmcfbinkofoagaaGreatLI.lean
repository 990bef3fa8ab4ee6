/- A new ledger. -/
import Derived.Test.YtmcfbinkofoagaaGreatLH
namespace Go.Proofs.YtmcfbinkofoagaaGreat
open Go Go.RowKit Sx Go.Proofs

theorem c38 {w : World} : Calls Tryz.prog 38 #[] w (Ret fun v w' => ∃ b, v = .pointer (some ⟨b, 0, none⟩) ∧ Grow w w' ∧ b = w.heap.size ∧ w'.heap.size = b + 1 ∧ Blk w' b [.slice none 0 0] 155) := by
  refine calls_of_rx (args := []) (e := []) (n := 3) Tryz.func38 rfl rfl rfl (by kernel_rfl) rfl ?_
  have hC := Ch.refl Nil w
  refine RX.seq ?_; refine RX.region ?_; refine RU.rd (V.as rfl) ?_; refine RU.nil ?_; refine RX.seq ?_; refine RX.region ?_; refine RU.rd (V.bld bf155 z155 rfl rfl) ?_
  refine RU.lo (L.bx hC rfl fun b1 w1 hb1 le1 hC1 gr1 hz1 hB1 => ?_); refine RU.rd (V.as rfl) ?_; refine RU.nil ?_; refine RX.rt Tryz.func38 (by rfl) (ResOk.tmp rfl (ResOk.nil)) ?_
  exact ⟨b1, rfl, hC1, hb1, hz1, hB1⟩

def newAcc (f : List Int) : List (Int × Int) := f.map fun x => (x, 0)
def ints (f : List Int) : List Value := f.map (.int .i64)
theorem c17 {w : World} {v : Value} {f : List Int} (hr : Rd w 1 v 10 (ints f)) (hf : f.length = 10) (h0 : ∀ x ∈ f, 0 ≤ x ∧ x ≤ 1073741824) (h1 : totalOf (newAcc f) ≤ 1073741824) : Calls Tryz.prog 17 #[v] w
    (Ret fun v w' => ∃ g, v = .tuple #[.pointer (some ⟨g.lb, 0, none⟩), .int .i64 0] ∧ Grow w w' ∧ (∀ b, g.foot b → w.heap.size ≤ b) ∧ LedAt w' g ⟨newAcc f, []⟩) := by
  obtain ⟨bv, off, c, cs, T, rfl, hbv, hx⟩ : ∃ bv off c cs T, v = .slice (some ⟨bv, off, none⟩) 10 c ∧ Blk w bv cs T ∧ (cs.drop off).take (10 * 1) = ints f := by
    cases hr with
    | some hb hn hx => exact ⟨_, _, _, _, _, rfl, hb, hx⟩
  have at1 : ∀ i (_ : i < f.length), cs[off + i * 1]? = some (.int .i64 (f.getD i 0)) := by
    intro i hi
    have h2 := congrArg (·[i]?) hx
    simp only [List.getElem?_take, List.getElem?_drop, ints, List.getElem?_map] at h2
    rw [if_pos (by omega)] at h2
    rw [Nat.mul_one, h2]; simp [hi]
  refine calls_of_rx (args := [_]) (e := [(0, _)]) (n := 45) Tryz.func17 rfl rfl rfl (by kernel_rfl) rfl ?_
  have hC := Ch.refl Nil w
  refine RX.seq ?_; refine RX.region ?_; refine RU.rd (V.as rfl) ?_; refine RU.rd (V.as rfl) ?_; refine RU.nil ?_; refine RX.seq ?_; refine RX.seq ?_; refine RX.region ?_; refine RU.rd (V.mv rfl) ?_
  refine RU.rd (V.len u49 rfl) ?_; refine RU.rd (V.gtr rfl rfl) ?_; refine RU.nil ?_; refine RX.condF rfl ?_; refine RX.skip ?_; refine RX.seq ?_; refine RX.region ?_
  refine RU.lo (L.call fn38 rfl c38 ?_)
  rintro _ w1 ⟨gb, rfl, gr1, hgb, hz1, hG1⟩
  have hC1 := hC.trans gr1
  refine RU.rd (V.bld bf106 z106 rfl rfl) ?_; have l1_hG1 := hG1.lt; refine RU.lo (L.bx hC1 rfl fun b1 w1 hb1 le1 hC1 gr1 hz1 hB1 => ?_); have hG1 := hG1.gr gr1; refine RU.rd (V.as rfl) ?_; refine RU.nil ?_
  refine RX.seq ?_; refine RX.seq ?_; refine RX.region ?_; refine RU.rd (V.mv rfl) ?_; refine RU.nil ?_; refine RX.block ?_
  have hC2 := hC1
  clear hC1
  refine RX.keep [(0, _), (4, _), (13, _)] ⟨rfl, rfl, rfl, trivial⟩ ?_
  refine RX.loop (fun d e w' => ∃ i : Nat, d = 10 - i ∧ i ≤ 10 ∧ e = [(0, .slice (some ⟨bv, off, none⟩) 10 c), (4, .pointer (some ⟨b1, 0, none⟩)), (13, .int .i64 i)] ∧ ∃ u, Grow w w' ∧ Blk w' b1 [u, .pointer (some ⟨gb, 0, none⟩)] 106 ∧ Blk w' gb [.slice none 0 0] 155 ∧
    Own w.heap.size w' 2 93 u (accC (newAcc (f.take i))) ∧ ¬ inSl u b1 ∧ ¬ inSl u gb) (10 - 0) ⟨0, rfl, by omega, rfl, .slice none 0 0, hC2, hB1, hG1, .nil, inSl.no, inSl.no⟩ ?_
  rintro d e w' ⟨i, rfl, hi, rfl, u, hG, hL, hGb, hO, hu1, hu2⟩ ih
  clear hC2 hC hB1 hG1
  have hbv' := hbv.gr hG
  have hC3 := hG
  refine RX.seq ?_; refine RX.region ?_; refine RU.rd (V.lss rfl rfl) ?_; refine RU.nil ?_; refine RX.seq ?_; refine RX.condD rfl (fun h2 => ?_) fun h2 => ?_
  · have hi' : i < f.length := by omega
    have hx0 : 0 ≤ f.getD (i : Int).toNat 0 ∧ f.getD (i : Int).toNat 0 ≤ 1073741824 := by
      rw [show f.getD (i : Int).toNat 0 = f[i] by simp [hi']]
      exact h0 _ (List.getElem_mem hi')
    have nodraw := True.intro
    refine RX.skip ?_; refine RX.seq ?_; refine RX.block ?_; refine RX.seq ?_; refine RX.region ?_; refine RU.rd (V.mv rfl) ?_; refine RU.rd (V.as rfl) ?_; refine RU.nil ?_; refine RX.seq ?_; refine RX.region ?_
    refine RU.rd (V.bld bf93 z93 rfl rfl) ?_; have l2_hL := hL.lt; have l2_hGb := hGb.lt; have l2_hbv' := hbv'.lt; refine RU.lo (L.al hC3 z93 fun b2 w2 hb2 le2 hC2 gr2 hz2 hB2 => ?_); have hL := hL.gr gr2
    have hGb := hGb.gr gr2; have hbv' := hbv'.gr gr2; refine RU.lo0 (L.stN hC2 sz93 rfl rfl rfl rfl hB2 rfl le2 fun w3 hC3 ch3 hz3 hB2 => ?_); have hL := hL.ch ch3 (by omega); have hGb := hGb.ch ch3 (by omega)
    have hbv' := hbv'.ch ch3 (by omega); refine RU.nil ?_; refine RX.seq ?_; refine RX.seq ?_; refine RX.region ?_; refine RU.rd (V.mv rfl) ?_; refine RU.rd (V.mv rfl) ?_; refine RU.rd (V.len u49 rfl) ?_
    refine RU.rd (V.lss rfl rfl) ?_; refine RU.nil ?_; refine RX.condD rfl (fun h3 => ?_) (fun _ => by omega); refine RX.region ?_; refine RU.rd (V.mv rfl) ?_; refine RU.rd (V.mv rfl) ?_
    refine RU.rd (V.idx e49 rfl rfl (by omega)) ?_; refine RU.rd (V.ld s3 rfl (cur hbv') (at1 _ (by omega))) ?_; refine RU.rd (V.fld0 f93_0 rfl) ?_
    refine RU.lo0 (L.stN hC3 sz3 rfl rfl rfl rfl hB2 rfl le2 fun w4 hC4 ch4 hz4 hB2 => ?_); have hL := hL.ch ch4 (by omega); have hGb := hGb.ch ch4 (by omega); have hbv' := hbv'.ch ch4 (by omega); refine RU.nil ?_
    refine RX.seq ?_; refine RX.seq ?_; refine RX.region ?_; refine RU.rd (V.fld0 f93_0 rfl) ?_; refine RU.rd (V.ld s3 rfl (cur hB2) rfl) ?_; refine RU.lo (L.call fn39 rfl (c39) ?_); rintro _ w5 ⟨rfl, hq5⟩; rw [hq5]
    clear hq5 w5; refine RU.rd (V.notD rfl) ?_; refine RU.nil ?_; refine RX.condD rfl (fun _ => by omega) fun h4 => ?_; refine RX.skip ?_
    clear nodraw
    have hG4 : Grow w' w4 := (gr2.trans' ch3 (by rintro b hb rfl; omega)).trans' ch4 (by rintro b hb rfl; omega)
    have hu3 : ¬ inSl u b2 := fun h => by have := (hO.lt b2 h).2; omega
    refine RX.draw (Ch (inSl u) w4) [0, 1, 2, 3, 4, 5, 8, 9] [(0, true), (1, true), (2, true), (3, true), (4, true), (5, true), (6, false), (7, false), (8, true), (9, true), (10, false)] mixed (by kernel_rfl) fun w5 gr5 hz5 => ?_
    have hS5 : Ch (inSl u) w4 w5 := .of_grow gr5
    have hC5 := hC4.trans gr5
    refine RD.rd rfl rfl hS5 (V.mv rfl) ?_; refine RD.rd rfl rfl hS5 (V.mv rfl) ?_; refine RD.rd rfl rfl hS5 (V.nck rfl) ?_; refine RD.rd rfl rfl hS5 (V.fld0 f106_0 rfl) ?_
    refine RD.rd rfl rfl hS5 (V.ld s104 rfl (fun _ hS => hL.ch hS (by first | assumption | omega | (dsimp only; omega) | (simp; omega))) rfl) ?_
    refine RD.rd rfl rfl hS5 (V.ldA a93 rfl (fun _ hS => hB2.ch hS (by first | assumption | omega | (dsimp only; omega) | (simp; omega))) (vs := [_, _]) rfl rfl) ?_
    refine RD.lo rfl (L.bsl hC5 e104 z93 rfl rfl rfl rfl fun b3 w3 hb3 le3 hC3 gr3 hz3 hB3 => ⟨hS5.trans (Ch.of_grow gr3), ?_⟩); have hS3 := hS5.trans (Ch.of_grow gr3)
    have hO6 := ((hO.gr hG4).gr gr5).gr gr3
    have hl6 : (accC (newAcc (f.take i))).length ≤ 20 := by rw [accC, rws_length accE_length]; simp [newAcc]; omega
    refine RD.lo rfl (L.app hC3 e104 u104 z93 rfl by93 rfl rfl hO6 (.some (n := 1) hB3 (Nat.le_refl _) rfl) rfl rfl (by simp; omega) fun u' w7 hC7 ch7 hO7 hin => ⟨hS3.trans' (S' := inSl u) ch7 (fun _ _ h => h), ?_⟩)
    obtain ⟨p7, n7, c7, rfl⟩ := hO7.isSl
    have hL7 := ((hL.gr gr5).gr gr3).ch ch7 hu1
    have hGb7 := ((hGb.gr gr5).gr gr3).ch ch7 hu2
    have hS7 : Ch (inSl u) w4 w7 := hS3.trans' ch7 (fun _ _ h => h)
    refine RD.rd rfl rfl hS7 (V.nck rfl) ?_; refine RD.rd rfl rfl hS7 (V.fld0 f106_0 rfl) ?_
    refine RD.lf0 rfl (by kernel_rfl) (L.stN hC7 sz104 rfl rfl rfl rfl hL7 rfl le1 fun w8 hC8 ch8 hz8 hL8 => ?_)
    have hGb8 := hGb7.ch ch8 (by omega)
    have hO8 := hO7.ch ch8 (by rintro b hb rfl; rcases hin _ hb with h | h; exact hu1 h; omega)
    refine RD.nil ?_; refine RX.inBlock ?_; refine RX.region ?_; refine RU.rd (V.add rfl rfl (by omega)) ?_; refine RU.rd (V.mv rfl) ?_; refine RU.nil ?_
    refine RX.keep [(0, _), (4, _), (13, _)] ⟨rfl, rfl, rfl, trivial⟩ ?_
    refine ih (10 - (i + 1)) (by omega) _ _ ⟨i + 1, rfl, by omega, rfl, _, hC8, hL8, hGb8, ?_, ?_, ?_⟩
    · rw [List.take_succ_eq_append_getElem hi', newAcc, List.map_append, accC, rws_append]
      have he : f.getD (i : Int).toNat 0 = f[i] := by simp [hi']
      rw [he] at hO8
      exact hO8
    · intro hb; rcases hin _ hb with h | h
      · exact hu1 h
      · omega
    · intro hb; rcases hin _ hb with h | h
      · exact hu2 h
      · omega
  · have : i = 10 := by omega
    subst this
    rw [List.take_of_length_le (by omega)] at hO
    have hlen : (accC (newAcc f)).length = 20 := by rw [accC, rws_length accE_length]; simp [newAcc]; omega
    obtain ⟨ab, n, cc, sp, rfl, h0b, hn, hab⟩ := hO.blk (by omega)
    have hn : n = 10 := by omega
    subst hn
    have hD : LedAt w' ⟨b1, ab, cc, sp, gb, none, 0⟩ ⟨newAcc f, []⟩ :=
      ⟨hL, hab, by simpa [newAcc] using hf, ⟨hGb, .nil _, inSl.no⟩, by simp, fun (he : b1 = ab) => hu1 ⟨_, _, _, by rw [he]⟩, by dsimp only; omega, fun (he : ab = gb) => hu2 ⟨_, _, _, by rw [← he]⟩, fun _ => inSl.no, fun _ => inSl.no⟩
    have hnn : ∀ x ∈ newAcc f, 0 ≤ x.1 ∧ 0 ≤ x.2 := by
      intro x hx; obtain ⟨y, hy, rfl⟩ := List.mem_map.1 hx; exact ⟨(h0 y hy).1, Int.le_refl 0⟩
    have hto : totalOf (Led.acc ⟨newAcc f, []⟩) ≤ 1000000000000 := by dsimp only; omega
    refine RX.exit rfl ?_; refine RX.seq ?_; refine RX.seq ?_; refine RX.region ?_; refine RU.rd (V.mv rfl) ?_
    have hcl : Calls Tryz.prog 40 #[.pointer (some ⟨b1, 0, none⟩)] w' (Ret fun v w1 => v = .int .i64 (totalOf (newAcc f)) ∧ Grow w' w1) := c40 (g := ⟨b1, ab, cc, sp, gb, none, 0⟩) (D := ⟨newAcc f, []⟩) hD hnn hto
    refine RU.lo (L.call fn40 rfl hcl ?_)
    rintro _ w9 ⟨rfl, gr9⟩
    have hC9 := hC3.trans gr9
    have ht2 : ¬ 1073741824 < totalOf (newAcc f) := by omega
    refine RU.rd (V.gtr rfl rfl) ?_; refine RU.nil ?_; refine RX.condD rfl (fun _ => by omega) fun h3 => ?_; refine RX.skip ?_; refine RX.seq ?_; refine RX.region ?_; refine RU.rd (V.mv rfl) ?_; refine RU.rd (V.as rfl) ?_
    refine RU.rd (V.as rfl) ?_; refine RU.nil ?_; refine RX.rt Tryz.func17 (by rfl) (ResOk.tmp rfl (ResOk.tmp rfl (ResOk.nil))) ?_
    refine ⟨_, rfl, hC9, ?_, hD.gr gr9⟩
    rintro b (rfl | rfl | rfl | ⟨n, h⟩)
    · exact le1
    · exact h0b
    · exact Nat.le_of_eq hgb.symm
    · exact (inSl.no h).elim
end Go.Proofs.YtmcfbinkofoagaaGreat
