/- What a batch of spends comes to. -/
import Derived.Test.YtmcfbinkofoagaaGreatHA
namespace Go.Proofs.YtmcfbinkofoagaaGreat
open Go Go.RowKit Sx Go.Proofs

/-- A spend to the first account. -/
def spTo (n : Int) : Cal := .mk 2 1 n []
def kidN (l : List Int) (bad : Int) (j : Nat) : Int := if (j : Int) = bad then 51 else l.getD j 0 % 8
def kidsN (l : List Int) (bad : Int) : List Int := (List.range l.length).map (kidN l bad)
theorem kidsN_len (l : List Int) (bad : Int) : (kidsN l bad).length = l.length := by simp [kidsN]
theorem kidsN_at (l : List Int) (bad : Int) {i : Nat} (h : i < (kidsN l bad).length) : (kidsN l bad)[i] = kidN l bad i := by simp [kidsN]
theorem kidsN_take (l : List Int) (bad : Int) {i : Nat} (h : i < l.length) : (kidsN l bad).take (i + 1) = (kidsN l bad).take i ++ [kidN l bad i] := by
  rw [List.take_succ_eq_append_getElem (by rw [kidsN_len]; exact h), kidsN_at]
def sumI (l : List Int) : Int := l.foldr (· + ·) 0
theorem sumI_append : ∀ a b : List Int, sumI (a ++ b) = sumI a + sumI b
  | [], b => by simp [sumI]
  | x :: a, b => by
    have := sumI_append a b
    simp only [sumI, List.cons_append, List.foldr_cons] at this ⊢; omega
theorem sumI_le : ∀ (l : List Int), (∀ x ∈ l, 0 ≤ x ∧ x ≤ 7) → 0 ≤ sumI l ∧ sumI l ≤ 7 * l.length
  | [], _ => by simp [sumI]
  | x :: r, h => by
    have h1 := h x (by simp)
    have h2 := sumI_le r fun y hy => h y (by simp [hy])
    simp only [sumI, List.foldr_cons, List.length_cons] at h2 ⊢; omega
theorem is0 : Led.is 0 := ⟨by omega, by omega⟩
theorem is1 : Led.is 1 := ⟨by omega, by omega⟩
theorem Led.tr_lk (D : Led) (f t n : Int) : (D.tr f t n).locks = D.locks := by unfold Led.tr; split <;> rfl
theorem spend_one {D : Led} (hk : D.locks = []) {n : Int} (h0 : 0 ≤ n ∧ n ≤ 7) (h1 : 7 ≤ (D.at 0).1) : spendC 50 1 n D = (D.tr 0 1 n, [(3, 1, n)], 0) := by
  unfold spendC
  rw [if_neg (by omega), if_neg]
  rw [Led.trE_free hk is0 is1 (by omega), if_neg (by omega)]; simp
theorem batch_row : ∀ (pre : List Int) (rest : List Cal) (D : Led), D.locks = [] → D.Ok → D.acc.length = 10 → (∀ x ∈ pre, 0 ≤ x ∧ x ≤ 7) → 7 * (pre.length : Int) ≤ (D.at 0).1 →
    ∃ D' evs, evs.length = pre.length ∧ (D'.at 1).1 = (D.at 1).1 + sumI pre ∧ D'.locks = [] ∧ Cal.doesL 1 50 (pre.map spTo ++ rest) D = behind evs (Cal.doesL 1 50 rest D')
  | [], rest, D, hk, ho, hl, hx, h0 => ⟨D, [], rfl, by simp [sumI], hk, by simp [behind]⟩
  | x :: r, rest, D, hk, ho, hl, hx, h0 => by
    have h1 := hx x (by simp)
    have hl2 : ((x :: r).length : Int) = r.length + 1 := by simp
    have e1 : (spTo x).does 1 50 D = (D.tr 0 1 x, [(3, 1, x)], 0) := by
      rw [spTo, does_spend]; exact spend_one hk h1 (by omega)
    have hg := Led.tr_good ho hl 0 1 x
    have a0 := Led.tr_at hk hl is0 is1 (n := x) (by omega) (by omega) 0
    have a1 := Led.tr_at hk hl is0 is1 (n := x) (by omega) (by omega) 1
    simp at a0 a1
    obtain ⟨D', evs, h2, h3, h4, h5⟩ := batch_row r rest (D.tr 0 1 x) (by rw [Led.tr_lk]; exact hk) hg.1 hg.2 (fun y hy => hx y (by simp [hy])) (by omega)
    refine ⟨D', [(3, 1, x)] ++ evs, by simp [h2], ?_, h4, ?_⟩
    · simp only [sumI, List.foldr_cons] at h3 ⊢; omega
    · rw [List.map_cons, List.cons_append]
      have := behind_cons (of := 1) (cap := 50) (c := spTo x) (r := r.map spTo ++ rest) (D := D) (by rw [e1]) []
      rw [e1] at this
      simp only [behind, List.nil_append] at this ⊢
      refine Eq.trans this ?_
      rw [h5]
      simp [behind]
theorem batch_bad {post : List Cal} {D : Led} : Cal.doesL 1 50 (spTo 51 :: post) D = (D, [], 10) := by
  have e1 : (spTo 51).does 1 50 D = (D, [], 10) := by
    rw [spTo, does_spend]; unfold spendC; rw [if_pos (by omega)]
  simp only [Cal.doesL, e1, ne_eq]
  rw [if_pos (by decide)]
/-- Of the whole batch. -/
theorem batch_law (l : List Int) (bad : Int) (h0 : 0 ≤ bad) (hn : l.length ≤ 4) :
    ∃ D' evs, Cal.doesL 1 50 ((kidsN l bad).map spTo) (startLed []) = (D', evs, if bad < l.length then 10 else 0) ∧ (evs.length : Int) = (if bad < l.length then bad else l.length) ∧ (D'.at 1).1 = 100 + sumI ((kidsN l bad).take bad.toNat) := by
  have ho := startLed_ok []
  have hl := startLed_len []
  have d0 : ((startLed []).at 0).1 = 100 := rfl
  have d1 : ((startLed []).at 1).1 = 100 := rfl
  have small : ∀ i, i < l.length → (i : Int) ≠ bad → 0 ≤ kidN l bad i ∧ kidN l bad i ≤ 7 := by
    intro i hi hne
    unfold kidN; rw [if_neg hne]; omega
  by_cases hb : bad < l.length
  · have hbn : bad.toNat < (kidsN l bad).length := by rw [kidsN_len]; omega
    have hsplit : kidsN l bad = (kidsN l bad).take bad.toNat ++ 51 :: (kidsN l bad).drop (bad.toNat + 1) := by
      have h3 : (kidsN l bad)[bad.toNat] = 51 := by rw [kidsN_at]; unfold kidN; rw [if_pos (by omega)]
      conv => lhs; rw [← List.take_append_drop bad.toNat (kidsN l bad), List.drop_eq_getElem_cons hbn, h3]
    have hpl : ((kidsN l bad).take bad.toNat).length = bad.toNat := by rw [List.length_take]; omega
    obtain ⟨D', evs, h2, h3, h4, h5⟩ := batch_row ((kidsN l bad).take bad.toNat) (spTo 51 :: ((kidsN l bad).drop (bad.toNat + 1)).map spTo) (startLed []) rfl ho hl (by
      intro x hx
      obtain ⟨i, hi, rfl⟩ := List.mem_iff_getElem.1 hx
      rw [List.getElem_take, kidsN_at]
      rw [hpl] at hi
      exact small i (by omega) (by omega)) (by rw [hpl, d0]; omega)
    refine ⟨D', evs, ?_, ?_, by rw [h3, d1]⟩
    · rw [if_pos hb]
      conv => lhs; rw [hsplit, List.map_append, List.map_cons]
      rw [h5, batch_bad]; simp [behind]
    · rw [if_pos hb, h2, hpl]; omega
  · have hall : (kidsN l bad).take bad.toNat = kidsN l bad := List.take_of_length_le (by rw [kidsN_len]; omega)
    obtain ⟨D', evs, h2, h3, h4, h5⟩ := batch_row (kidsN l bad) [] (startLed []) rfl ho hl (by
      intro x hx
      obtain ⟨i, hi, rfl⟩ := List.mem_iff_getElem.1 hx
      rw [kidsN_at]
      rw [kidsN_len] at hi
      exact small i (by omega) (by omega)) (by rw [kidsN_len, d0]; omega)
    rw [List.append_nil] at h5
    refine ⟨D', evs, ?_, ?_, by rw [hall, h3, d1]⟩
    · rw [if_neg hb, h5]; simp [behind, Cal.doesL]
    · rw [if_neg hb, h2, kidsN_len]
end Go.Proofs.YtmcfbinkofoagaaGreat
