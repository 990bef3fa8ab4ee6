/- What an account may spend; a transfer, and what is held. -/
import Derived.Test.YtmcfbinkofoagaaGreatLB
namespace Go.Proofs.YtmcfbinkofoagaaGreat
open Go Go.RowKit Sx Go.Proofs

/-- All that there is. -/
def totalOf : List (Int × Int) → Int
  | [] => 0
  | x :: r => x.1 + x.2 + totalOf r
def Led.Ok (D : Led) : Prop := (∀ x ∈ D.acc, 0 ≤ x.1 ∧ 0 ≤ x.2) ∧ totalOf D.acc ≤ 1073741824
theorem totalOf_nn : ∀ {l : List (Int × Int)}, (∀ x ∈ l, 0 ≤ x.1 ∧ 0 ≤ x.2) → 0 ≤ totalOf l
  | [], _ => by simp [totalOf]
  | x :: r, h => by
    have h1 := h x (by simp)
    have h2 := totalOf_nn (l := r) fun y hy => h y (by simp [hy])
    simp [totalOf]; omega
theorem totalOf_mem : ∀ {l : List (Int × Int)}, (∀ x ∈ l, 0 ≤ x.1 ∧ 0 ≤ x.2) → ∀ x ∈ l, x.1 + x.2 ≤ totalOf l
  | y :: r, h, x, hx => by
    have h1 := h y (by simp)
    have h2 := totalOf_nn (l := r) fun y hy => h y (by simp [hy])
    simp only [totalOf]
    rcases List.mem_cons.1 hx with rfl | hx
    · omega
    · have := totalOf_mem (l := r) (fun y hy => h y (by simp [hy])) x hx
      omega
theorem totalOf_set : ∀ (l : List (Int × Int)) (i : Nat) (h : i < l.length) (x : Int × Int), totalOf (l.set i x) = totalOf l - (l[i].1 + l[i].2) + (x.1 + x.2)
  | y :: r, 0, _, x => by simp [totalOf]; omega
  | y :: r, i + 1, h, x => by
    have := totalOf_set r i (by simpa using h) x
    simp [totalOf, this]; omega
theorem Led.at_mem {D : Led} (hl : D.acc.length = 10) (a : Int) : D.at a = (0, 0) ∨ D.at a ∈ D.acc := by
  by_cases h : Led.is a
  · right; rw [Led.at_of h.1 (by have := h.2; omega) hl]; exact List.getElem_mem _
  · left; exact Led.at_no h
theorem Led.Ok.at {D : Led} (h : D.Ok) (hl : D.acc.length = 10) (a : Int) : 0 ≤ (D.at a).1 ∧ 0 ≤ (D.at a).2 ∧ (D.at a).1 + (D.at a).2 ≤ 1073741824 := by
  rcases Led.at_mem hl a with h1 | h1
  · rw [h1]; decide
  · have h2 := h.1 _ h1
    have h3 := totalOf_mem h.1 _ h1
    have := h.2
    omega

/-- Why an account may not spend something. -/
def Led.may (D : Led) (a n : Int) : Int :=
  if ¬ Led.is a ∨ ¬ (0 ≤ n ∧ n ≤ 1073741824) then 1 else if (D.at a).1 < n then 6 else if 0 < n ∧ (D.at a).1 - n < D.lockd a then 7 else 0

theorem c77 {w : World} {g : LG} {D : Led} {a n : Int} (h : LedAt w g D) (ho : D.Ok) : Calls Tryz.prog 77 #[.pointer (some ⟨g.lb, 0, none⟩), .int .i64 a, .int .i64 n] w (Ret fun v w' => v = .int .i64 (D.may a n) ∧ Grow w w') := by
  have h1 := ho.at h.hl a
  refine calls_of_rx (args := [_, _, _]) (e := [(0, _), (1, _), (2, _)]) (n := 41) Tryz.func77 rfl rfl rfl (by kernel_rfl) rfl ?_
  have hC := Ch.refl Nil w
  refine RX.seq ?_; refine RX.region ?_; refine RU.rd (V.as rfl) ?_; refine RU.nil ?_; refine RX.seq ?_; refine RX.region ?_; refine RU.rd (V.mv rfl) ?_; refine RU.rd (V.mv rfl) ?_; refine RU.lo (L.call fn30 rfl (c30 h) ?_)
  rintro _ w1 ⟨rfl, gr1⟩; have hC1 := hC.trans (Ch.of_grow gr1); refine RU.rd (V.mv rfl) ?_; refine RU.rd (V.ext rfl rfl) ?_; refine RU.rd (V.ext rfl rfl) ?_
  refine RU.lo (L.al hC1 z93 fun b1 w1 hb1 le1 hC1 gr1 hz1 hB1 => ?_); refine RU.lo0 (L.stN hC1 sz93 rfl rfl rfl rfl hB1 rfl le1 fun w2 hC2 ch2 hz2 hB1 => ?_); refine RU.rd (V.as rfl) ?_; refine RU.nil ?_; refine RX.seq ?_
  refine RX.block ?_; refine RX.seq ?_; refine RX.region ?_; refine RU.rd (V.mv rfl) ?_; refine RU.rd (V.notD rfl) ?_; refine RU.rd (V.mv rfl) ?_; refine RU.splitD (fun h2 => ?_) fun h2 => ?_
  · refine RU.sk rfl rfl rfl ?_; refine RU.sk rfl rfl rfl ?_; refine RU.sk rfl rfl rfl ?_; refine RU.rd (V.pickT rfl rfl) ?_; refine RU.rd (V.as rfl) ?_; refine RU.nil ?_; refine RX.condT rfl ?_; refine RX.seq ?_
    refine RX.region ?_; refine RU.rd (V.as rfl) ?_; refine RU.nil ?_; refine RX.rt Tryz.func77 (by rfl) (ResOk.tmp rfl (ResOk.nil)) ?_
    exact ⟨congrArg (Value.int .i64) (by unfold Led.may; unfold Led.is at *; (repeat' split) <;> first | rfl | omega), by assumption⟩
  · refine RU.rdG rfl rfl (V.mv rfl) ?_; refine RU.loG rfl rfl (L.call fn39 rfl (c39) ?_); rintro _ w3 ⟨rfl, hq3⟩; rw [hq3]; clear hq3 w3; refine RU.rdG rfl rfl (V.notD rfl) ?_; refine RU.rd (V.pickF rfl rfl) ?_
    refine RU.rd (V.as rfl) ?_; refine RU.nil ?_; refine RX.condD rfl (fun h3 => ?_) fun h3 => ?_
    · refine RX.seq ?_; refine RX.region ?_; refine RU.rd (V.as rfl) ?_; refine RU.nil ?_; refine RX.rt Tryz.func77 (by rfl) (ResOk.tmp rfl (ResOk.nil)) ?_
      exact ⟨congrArg (Value.int .i64) (by unfold Led.may; unfold Led.is at *; (repeat' split) <;> first | rfl | omega), by assumption⟩
    · refine RX.seq ?_; refine RX.region ?_; refine RU.rd (V.mv rfl) ?_; refine RU.rd (V.fld0 f93_0 rfl) ?_; refine RU.rd (V.ld s3 rfl (cur hB1) rfl) ?_; refine RU.rd (V.gtr rfl rfl) ?_; refine RU.rd (V.as rfl) ?_
      refine RU.nil ?_; refine RX.condD rfl (fun h4 => ?_) fun h4 => ?_
      · refine RX.seq ?_; refine RX.region ?_; refine RU.rd (V.as rfl) ?_; refine RU.nil ?_; refine RX.rt Tryz.func77 (by rfl) (ResOk.tmp rfl (ResOk.nil)) ?_
        exact ⟨congrArg (Value.int .i64) (by unfold Led.may; unfold Led.is at *; (repeat' split) <;> first | rfl | omega), by assumption⟩
      · refine RX.seq ?_
        refine RX.draw (Ch Nil w2) [4] [(0, true), (1, true), (2, true), (3, true), (4, true), (5, true), (6, true), (7, true), (8, true), (9, false), (10, true), (11, true), (12, true)] mixed (by kernel_rfl) fun w3 gr3 hz3 => ?_
        have hC3 := hC2.trans (Ch.of_grow gr3); have hB1d3 := hB1.gr gr3; refine RD.rz rfl (V.mv rfl) ?_; refine RD.rz rfl (V.gtr rfl rfl) ?_; refine RD.rz rfl (V.mv rfl) ?_
        refine RD.splitD (fun h5 => ?_) fun h5 => ?_
        · refine RD.rzG rfl rfl rfl (V.fld0 f93_0 rfl) ?_; refine RD.rdG rfl rfl rfl rfl gr3 (V.ld s3 rfl (fun _ hS => hB1.gr hS) rfl) ?_; refine RD.rzG rfl rfl rfl (V.mv rfl) ?_
          refine RD.rzG rfl rfl rfl (V.sub rfl rfl (by omega)) ?_; refine RD.rzG rfl rfl rfl (V.mv rfl) ?_; refine RD.rzG rfl rfl rfl (V.mv rfl) ?_; refine RD.loG rfl rfl rfl (L.call fn103 rfl (c103 (h.gr hC3)) ?_)
          rintro _ w4 ⟨rfl, gr4⟩; have hS4 := gr3.trans (Ch.of_grow gr4); refine ⟨hS4, ?_⟩; have hC4 := hC3.trans (Ch.of_grow gr4); have hB1d3 := hB1d3.gr gr4; refine RD.rzG rfl rfl rfl (V.lss rfl rfl) ?_
          refine RD.rz rfl (V.pickT rfl rfl) ?_; refine RD.rz rfl (V.as rfl) ?_; refine RD.nil ?_; refine RX.condD rfl (fun h6 => ?_) fun h6 => ?_
          · refine RX.seq ?_; refine RX.region ?_; refine RU.rd (V.as rfl) ?_; refine RU.nil ?_; refine RX.rt Tryz.func77 (by rfl) (ResOk.tmp rfl (ResOk.nil)) ?_
            exact ⟨congrArg (Value.int .i64) (by unfold Led.may; unfold Led.is at *; (repeat' split) <;> first | rfl | omega), by assumption⟩
          · refine RX.skip ?_; refine RX.inBlock ?_; refine RX.seq ?_; refine RX.region ?_; refine RU.rd (V.as rfl) ?_; refine RU.nil ?_; refine RX.rt Tryz.func77 (by rfl) (ResOk.tmp rfl (ResOk.nil)) ?_
            exact ⟨congrArg (Value.int .i64) (by unfold Led.may; unfold Led.is at *; (repeat' split) <;> first | rfl | omega), by assumption⟩
        · refine RD.skz rfl rfl rfl rfl rfl ?_; refine RD.sk rfl rfl rfl rfl rfl gr3 rfl ?_; refine RD.skz rfl rfl rfl rfl rfl ?_; refine RD.skz rfl rfl rfl rfl rfl ?_; refine RD.skz rfl rfl rfl rfl rfl ?_
          refine RD.skz rfl rfl rfl rfl rfl ?_; refine RD.skL rfl rfl rfl rfl gr3 ?_; refine RD.skz rfl rfl rfl rfl rfl ?_; refine RD.rz rfl (V.pickF rfl rfl) ?_; refine RD.rz rfl (V.as rfl) ?_; refine RD.nil ?_
          refine RX.condF rfl ?_; refine RX.skip ?_; refine RX.inBlock ?_; refine RX.seq ?_; refine RX.region ?_; refine RU.rd (V.as rfl) ?_; refine RU.nil ?_
          refine RX.rt Tryz.func77 (by rfl) (ResOk.tmp rfl (ResOk.nil)) ?_; exact ⟨congrArg (Value.int .i64) (by unfold Led.may; unfold Led.is at *; (repeat' split) <;> first | rfl | omega), by assumption⟩
end Go.Proofs.YtmcfbinkofoagaaGreat
