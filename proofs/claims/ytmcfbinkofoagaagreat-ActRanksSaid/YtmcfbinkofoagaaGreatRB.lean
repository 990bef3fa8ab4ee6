/- Referenda as a grid's first row. -/
import Derived.Test.YtmcfbinkofoagaaGreatRA
namespace Go.Proofs.YtmcfbinkofoagaaGreat
open Go Go.RowKit Sx Go.Proofs

def zeroR : Rfd := ⟨0, 0, fun _ => 0, 0, 0, 0, false, 0, 0, 0, 0, 0, 0, 0⟩
/-- Referenda by numbers, as cells of the first row. -/
def refG (rs : List Rfd) : RGrid := (List.range rs.length).map fun (i : Nat) => (((0 : Int), (i : Int)), rs.getD i zeroR)
theorem refG_len (rs : List Rfd) : (refG rs).length = rs.length := by simp [refG]
theorem refG_at (rs : List Rfd) {i : Nat} (h : i < (refG rs).length) : (refG rs)[i] = ((0, (i : Int)), rs[i]'(by rw [refG_len] at h; exact h)) := by
  have h2 : i < rs.length := by rw [refG_len] at h; exact h
  simp only [refG, List.getElem_map, List.getElem_range, List.getD_eq_getElem?_getD, List.getElem?_eq_getElem h2, Option.getD_some]
theorem refG_rising (rs : List Rfd) : Rising (refG rs) := by
  intro i j hij hj
  rw [refG_at, refG_at]
  exact .inr ⟨rfl, by dsimp only; omega⟩
theorem refG_set (rs : List Rfd) {i : Nat} (x : Rfd) : (refG rs).set i ((0, (i : Int)), x) = refG (rs.set i x) := by
  apply List.ext_getElem
  · rw [List.length_set, refG_len, refG_len, List.length_set]
  · intro j h1 h2
    rw [refG_at, List.getElem_set]
    split
    · rename_i e; subst e; simp
    · rename_i e
      rw [refG_at, List.getElem_set_ne e]
theorem refG_app (rs : List Rfd) (x : Rfd) : refG rs ++ [((0, (rs.length : Int)), x)] = refG (rs ++ [x]) := by
  apply List.ext_getElem
  · rw [List.length_append, refG_len, refG_len, List.length_append]; rfl
  · intro j h1 h2
    rw [refG_at]
    rw [List.length_append, refG_len] at h1
    simp only [List.length_cons, List.length_nil] at h1
    by_cases h : j < rs.length
    · rw [List.getElem_append_left (by rw [refG_len]; exact h), refG_at, List.getElem_append_left h]
    · have : j = rs.length := by omega
      subst this
      rw [List.getElem_append_right (by rw [refG_len]; omega), List.getElem_append_right (by omega)]
      simp [refG_len]
def refAt (rs : List Rfd) (b : Int) : Rfd := if 0 ≤ b then rs.getD b.toNat zeroR else zeroR
theorem refAt_in {rs : List Rfd} {b : Int} (h0 : 0 ≤ b) (h1 : b.toNat < rs.length) : refAt rs b = rs[b.toNat] := by simp [refAt, h0, h1]
theorem refAt_out {rs : List Rfd} {b : Int} (h : b < 0 ∨ (rs.length : Int) ≤ b) : refAt rs b = zeroR := by
  unfold refAt; split
  · have : rs.length ≤ b.toNat := by omega
    simp [this]
  · rfl
/-- A grid of referenda. -/
abbrev RGrd (w : World) (gb : Nat) (gv : Value) (rs : List Rfd) : Prop := Grd w gb gv 47 (gcs encR (refG rs)) 150 rs.length

theorem c64 {w : World} {gb : Nat} {gv : Value} {rs : List Rfd} {b : Int} (hg : RGrd w gb gv rs) (hn : rs.length ≤ 1000) : Calls Tryz.prog 64 #[.pointer (some ⟨gb, 0, none⟩), .int .i64 0, .int .i64 b] w
    (Ret fun v w' => ∃ i : Int, v = .tuple #[.int .i64 i, .bool (decide (0 ≤ b ∧ b < rs.length))] ∧ (0 ≤ b ∧ b < rs.length → i = b) ∧ ((rs.length : Int) ≤ b → i = rs.length) ∧ Grow w w') := by
  have hsb := hg.sb
  have hrd := Rd.g hg.rd (refG_len rs).symm
  obtain ⟨p0, off, c0, rfl, -⟩ := id hrd
  refine calls_of_rx (args := [_, _, _]) (e := [(0, _), (1, _), (2, _)]) (n := 18) Tryz.func64 rfl rfl rfl (by kernel_rfl) rfl ?_
  have hC := Ch.refl Nil w
  have uq := True.intro
  refine RX.seq ?_; refine RX.region ?_; refine RU.rd (V.as rfl) ?_; refine RU.rd (V.as rfl) ?_; refine RU.nil ?_; refine RX.seq ?_; refine RX.region ?_; refine RU.rd (V.mv rfl) ?_; refine RU.rd (V.nck rfl) ?_
  refine RU.rd (V.fld0 f150_0 rfl) ?_; refine RU.rd (V.ld s148 rfl (cur hsb) rfl) ?_; refine RU.rd (V.mv rfl) ?_; refine RU.rd (V.mv rfl) ?_; refine RU.rd (V.bldA ar145 z145 rfl rfl) ?_
  refine RU.lo (L.call fn91 rfl (c91 (k := (0, b)) hrd (refG_rising rs) (by rw [refG_len]; omega)) ?_)
  rintro _ w1 ⟨p, hp, hlo, hhi, rfl, gr1⟩
  have hC1 := gr1
  rw [refG_len] at hp
  have hp2 : (p : Int) = if 0 ≤ b then min b rs.length else 0 := by
    have a1 : p < rs.length → ¬ ((p : Int) < b) := fun h => by
      have := hhi p (by rw [refG_len]; exact h) (Nat.le_refl _)
      rw [refG_at] at this
      intro h2; exact this (.inr ⟨rfl, h2⟩)
    have a2 : 0 < p → ((p - 1 : Nat) : Int) < b := fun h => by
      have := hlo (p - 1) (by rw [refG_len]; omega) (by omega)
      rw [refG_at] at this
      rcases this with h2 | ⟨_, h2⟩
      · exact absurd h2 (by dsimp only; omega)
      · exact h2
    split <;> omega
  have hf : decide (∃ h : p < (refG rs).length, (refG rs)[p].1 = (0, b)) = decide (0 ≤ b ∧ b < rs.length) := by
    apply decide_eq_decide.2
    constructor
    · rintro ⟨h, e⟩
      rw [refG_at] at e
      rw [refG_len] at h
      have : (p : Int) = b := congrArg (·.2) e
      omega
    · intro h
      have : (p : Int) = b := by rw [if_pos h.1] at hp2; omega
      exact ⟨by rw [refG_len]; omega, by rw [refG_at, this]⟩
  rw [hf]
  refine RU.rd (V.ext rfl rfl) ?_; refine RU.rd (V.ext rfl rfl) ?_; refine RU.rd (V.as rfl) ?_; refine RU.rd (V.as rfl) ?_; refine RU.nil ?_; refine RX.rt Tryz.func64 (by rfl) (ResOk.tmp rfl (ResOk.tmp rfl (ResOk.nil))) ?_
  exact ⟨p, rfl, fun h => by rw [hp2, if_pos h.1]; omega, fun h => by rw [hp2, if_pos (by omega)]; omega, hC1⟩
theorem c50 {w : World} {gb : Nat} {gv : Value} {rs : List Rfd} (hg : RGrd w gb gv rs) : Calls Tryz.prog 50 #[.pointer (some ⟨gb, 0, none⟩)] w (Ret fun v w' => v = .int .i64 rs.length ∧ Grow w w') := by
  have hsb := hg.sb
  obtain ⟨p0, off, c0, hgv, -⟩ := Rd.g hg.rd (refG_len rs).symm
  rw [refG_len] at hgv
  subst hgv
  refine calls_of_rx (args := [_]) (e := [(0, _)]) (n := 10) Tryz.func50 rfl rfl rfl (by kernel_rfl) rfl ?_
  have hC := Ch.refl Nil w
  refine RX.seq ?_; refine RX.region ?_; refine RU.rd (V.as rfl) ?_; refine RU.nil ?_; refine RX.seq ?_; refine RX.seq ?_; refine RX.region ?_; refine RU.rd (V.mv rfl) ?_; refine RU.rd (V.eqNil u88 rfl rfl) ?_
  refine RU.nil ?_; refine RX.condF rfl ?_; refine RX.skip ?_; refine RX.seq ?_; refine RX.region ?_; refine RU.rd (V.mv rfl) ?_; refine RU.rd (V.nck rfl) ?_; refine RU.rd (V.fld0 f150_0 rfl) ?_
  refine RU.rd (V.ld s148 rfl (cur hsb) rfl) ?_; refine RU.rd (V.len u148 rfl) ?_; refine RU.rd (V.as rfl) ?_; refine RU.nil ?_; refine RX.rt Tryz.func50 (by rfl) (ResOk.tmp rfl (ResOk.nil)) ?_; exact ⟨rfl, by assumption⟩
theorem c29 {w : World} {gb : Nat} {gv : Value} {rs : List Rfd} {b : Int} (hg : RGrd w gb gv rs) (hn : rs.length ≤ 1000) : Calls Tryz.prog 29 #[.pointer (some ⟨gb, 0, none⟩), .int .i64 0, .int .i64 b] w
    (Ret fun v w' => v = .tuple #[.agg (encR (refAt rs b)).toArray, .bool (decide (0 ≤ b ∧ b < rs.length))] ∧ Grow w w') := by
  have hsb := hg.sb
  obtain ⟨p0, off, c0, hgv, hb0⟩ := Rd.g hg.rd (refG_len rs).symm
  rw [refG_len] at hgv
  subst hgv
  refine calls_of_rx (args := [_, _, _]) (e := [(0, _), (1, _), (2, _)]) (n := 30) Tryz.func29 rfl rfl rfl (by kernel_rfl) rfl ?_
  have hC := Ch.refl Nil w
  have uq := True.intro
  refine RX.seq ?_; refine RX.region ?_; refine RU.lo (L.al hC z44 fun b1 w1 hb1 le1 hC1 gr1 hz1 hB1 => ?_); refine RU.rd (V.as rfl) ?_; refine RU.nil ?_; refine RX.seq ?_; refine RX.seq ?_; refine RX.region ?_
  refine RU.rd (V.mv rfl) ?_; refine RU.rd (V.eqNil u88 rfl rfl) ?_; refine RU.nil ?_; refine RX.condF rfl ?_; refine RX.skip ?_; refine RX.seq ?_; refine RX.region ?_; refine RU.rd (V.mv rfl) ?_; refine RU.rd (V.mv rfl) ?_
  refine RU.rd (V.mv rfl) ?_
  refine RU.lo (L.call fn64 rfl (c64 (b := b) (hg.gr gr1) hn) ?_)
  rintro _ w2 ⟨i, rfl, hi1, hi2, gr2⟩
  have hC2 := hC1.trans gr2
  replace hB1 := hB1.gr gr2
  refine RU.rd (V.mv rfl) ?_; refine RU.rd (V.ext rfl rfl) ?_; refine RU.rd (V.ext rfl rfl) ?_; refine RU.rd (V.as rfl) ?_; refine RU.rd (V.as rfl) ?_; refine RU.nil ?_; refine RX.seq ?_; refine RX.seq ?_
  refine RX.region ?_; refine RU.rd (V.mv rfl) ?_; refine RU.nil ?_; refine RX.condD rfl (fun h1 => ?_) fun h1 => ?_
  · have h1' : 0 ≤ b ∧ b < rs.length := by assumption
    obtain rfl := hi1 h1'
    obtain ⟨b0, cs0, rfl, hbv, ax⟩ := hb0 (by rw [refG_len]; omega)
    have lb0 := hbv.lt
    have hbv := hbv.gr hC2
    have at1 : ∀ j (_ : j = i.toNat), (cs0.drop (off + j * 47 + 2)).take 45 = encR rs[i.toNat] := by
      rintro j rfl
      have := congrArg (List.drop 2) (ax i.toNat (by rw [refG_len]; omega))
      rw [List.drop_take, List.drop_drop, refG_at] at this
      exact this
    rw [refAt_in (by omega) (by omega)]
    refine RX.region ?_; refine RU.rd (V.mv rfl) ?_; refine RU.rd (V.nck rfl) ?_; refine RU.rd (V.fld0 f150_0 rfl) ?_; refine RU.rd (V.ld s148 rfl (cur (hsb.gr hC2)) rfl) ?_; refine RU.rd (V.mv rfl) ?_
    refine RU.rd (V.idx e148 rfl rfl (by omega)) ?_; refine RU.rd (V.fld f147_1 rfl) ?_; refine RU.rd (V.ldAR a44 rfl (cur hbv) rfl (at1 _ (by omega))) ?_
    refine RU.lo0 (L.stN hC2 sz44 rfl rfl rfl rfl hB1 rfl le1 fun w3 hC3 ch3 hz3 hB1 => ?_); have hbv := hbv.ch ch3 (by omega); refine RU.nil ?_; refine RX.seq ?_; refine RX.region ?_
    refine RU.rd (V.ldA a44 rfl (cur hB1) (vs := [_, _, _, _, _, _, _, _, _, _, _, _, _, _, _, _, _, _, _, _, _, _, _, _, _, _, _, _, _, _, _, _, _, _, _, _, _, _, _, _, _, _, _, _, _]) rfl rfl) ?_; refine RU.rd (V.mv rfl) ?_
    refine RU.lo0 (L.stN hC3 sz44 rfl rfl rfl rfl hB1 rfl le1 fun w4 hC4 ch4 hz4 hB1 => ?_); have hbv := hbv.ch ch4 (by omega); refine RU.rd (V.as rfl) ?_; refine RU.nil ?_
    refine RX.rt Tryz.func29 (by rfl) (ResOk.cellA rfl a44 hB1 (Nat.le_of_ble_eq_true rfl) (us := [_, _, _, _, _, _, _, _, _, _, _, _, _, _, _, _, _, _, _, _, _, _, _, _, _, _, _, _, _, _, _, _, _, _, _, _, _, _, _, _, _, _, _, _, _]) rfl (ResOk.tmp rfl (ResOk.nil))) ?_
    exact ⟨rfl, by assumption⟩
  · have h1' : ¬ (0 ≤ b ∧ b < rs.length) := by assumption
    rw [refAt_out (by omega), decide_eq_false h1']
    refine RX.skip ?_; refine RX.seq ?_; refine RX.region ?_
    refine RU.rd (V.ldA a44 rfl (cur hB1) (vs := [_, _, _, _, _, _, _, _, _, _, _, _, _, _, _, _, _, _, _, _, _, _, _, _, _, _, _, _, _, _, _, _, _, _, _, _, _, _, _, _, _, _, _, _, _]) rfl rfl) ?_; refine RU.rd (V.mv rfl) ?_
    refine RU.lo0 (L.stN hC2 sz44 rfl rfl rfl rfl hB1 rfl le1 fun w3 hC3 ch3 hz3 hB1 => ?_); refine RU.rd (V.as rfl) ?_; refine RU.nil ?_
    refine RX.rt Tryz.func29 (by rfl) (ResOk.cellA rfl a44 hB1 (Nat.le_of_ble_eq_true rfl) (us := [_, _, _, _, _, _, _, _, _, _, _, _, _, _, _, _, _, _, _, _, _, _, _, _, _, _, _, _, _, _, _, _, _, _, _, _, _, _, _, _, _, _, _, _, _]) rfl (ResOk.tmp rfl (ResOk.nil))) ?_
    exact ⟨rfl, by assumption⟩

theorem gcsR_len (G : RGrid) : (gcs encR G).length = G.length * 47 := rws_length celR_length G
theorem gcsR_one (G : RGrid) : (gcs encR G).all (·.oneCell') = true := by
  induction G with
  | nil => rfl
  | cons t r ih => simp only [gcs, rws, List.all_append, Bool.and_eq_true]; exact ⟨rfl, ih⟩
/-- Cells are copied. -/
theorem c79 {w : World} {v : Value} {G : RGrid} {n : Nat} (h : Rd w 47 v n (gcs encR G)) (hn : n = G.length) (hm : G.length ≤ 1000) : Calls Tryz.prog 79 #[v] w (Ret fun v w' => Grow w w' ∧ Own w.heap.size w' 47 147 v (gcs encR G)) := by
  have hln := gcsR_len G
  obtain ⟨xs, hx⟩ : ∃ xs, gcs encR G = xs := ⟨_, rfl⟩
  have h1 := gcsR_one G
  rw [hx] at h hln h1 ⊢
  have h' := h
  cases h with
  | nil =>
    refine calls_of_rx (args := [_]) (e := [(0, _)]) (n := 8) Tryz.func79 rfl rfl rfl (by kernel_rfl) rfl ?_
    have hC := Ch.refl Nil w
    refine RX.seq ?_; refine RX.region ?_; refine RU.rd (V.as rfl) ?_; refine RU.nil ?_; refine RX.seq ?_; refine RX.seq ?_; refine RX.region ?_; refine RU.rd (V.mv rfl) ?_; refine RU.rd (V.slNil u148 rfl rfl) ?_
    refine RU.nil ?_; refine RX.condT rfl ?_; refine RX.seq ?_; refine RX.region ?_; refine RU.rd (V.as rfl) ?_; refine RU.nil ?_; refine RX.rt Tryz.func79 (by rfl) (ResOk.tmp rfl (ResOk.nil)) ?_
    exact ⟨hC, .nil⟩
  | some hb hle hxs =>
    rename_i b off c cs T
    refine calls_of_rx (args := [_]) (e := [(0, _)]) (n := 8) Tryz.func79 rfl rfl rfl (by kernel_rfl) rfl ?_
    have hC := Ch.refl Nil w
    have uq := True.intro
    refine RX.seq ?_; refine RX.region ?_; refine RU.rd (V.as rfl) ?_; refine RU.nil ?_; refine RX.seq ?_; refine RX.seq ?_; refine RX.region ?_; refine RU.rd (V.mv rfl) ?_; refine RU.rd (V.slNil u148 rfl rfl) ?_
    refine RU.nil ?_; refine RX.condF rfl ?_; refine RX.skip ?_; refine RX.seq ?_; refine RX.region ?_; refine RU.lo (L.bsl hC e148 z147 rfl rfl rfl rfl fun b1 w1 hb1 le1 hC1 gr1 hz1 hB1 => ?_); refine RU.rd (V.mv rfl) ?_
    have hO : Own w.heap.size w1 47 147 (.slice (some ⟨b1, 0, none⟩) 0 0) [] := .some le1 hB1 rfl rfl rfl (Nat.le_refl _)
    refine RU.lo (L.app hC1 e148 u148 z147 rfl by147 rfl rfl hO (h'.gr gr1) rfl h1 (by rw [hln]; simp; omega) fun u w2 hC2 ch2 hO2 hin => ?_)
    refine RU.rd (V.as rfl) ?_; refine RU.nil ?_; refine RX.rt Tryz.func79 (by rfl) (ResOk.tmp rfl (ResOk.nil)) ?_
    rw [List.nil_append] at hO2
    exact ⟨hC2, hO2⟩
/-- One more cell behind all others. -/
theorem c80 {w : World} {s v : Value} {o : Nat} {G : RGrid} {x : (Int × Int) × Rfd} (hs : Own o w 47 147 s (gcs encR G)) (ho : o ≤ w.heap.size) (hv : Rd w 47 v 1 (celC encR x)) (hm : G.length ≤ 1000) : Calls Tryz.prog 80 #[s, .int .i64 G.length, v] w
    (Ret fun v w' => Ch (inSl s) w w' ∧ Own o w' 47 147 v (gcs encR (G ++ [x])) ∧ ∀ b, inSl v b → inSl s b ∨ w.heap.size ≤ b) := by
  have hln := gcsR_len G
  obtain ⟨p, n, c, rfl⟩ := hs.isSl
  obtain ⟨pv, nv, cv, rfl⟩ : ∃ p n c, v = .slice p n c := by cases hv; exact ⟨_, _, _, rfl⟩
  have hnv : nv = 1 := Rd.len hv
  subst hnv
  have hn : n = G.length := by
    obtain ⟨m, hm2⟩ := hs.rd
    have h3 := Rd.len hm2
    have := hm2.length
    omega
  subst hn
  have hlt := hs.lt
  have key : p = none ∧ c = 0 ∧ G.length = 0 ∨ ∃ b, p = some ⟨b, 0, none⟩ := by
    generalize hg : gcs encR G = xs at hs
    generalize hm2 : G.length = m at hs
    cases hs with
    | nil => exact .inl ⟨rfl, rfl, rfl⟩
    | some => exact .inr ⟨_, rfl⟩
  rcases key with ⟨rfl, rfl, h0⟩ | ⟨b, rfl⟩
  · rw [h0] at hs hlt ⊢
    refine calls_of_rx (args := [_, _, _]) (e := [(0, _), (1, _), (2, _)]) (n := 95) Tryz.func80 rfl rfl rfl (by kernel_rfl) rfl ?_
    have hC := Ch.refl (inSl (.slice none 0 0)) w
    have uq := True.intro
    refine RX.seq ?_; refine RX.region ?_; refine RU.rd (V.as rfl) ?_; refine RU.nil ?_; refine RX.seq ?_; refine RX.region ?_; refine RU.rd (V.mv rfl) ?_; refine RU.rd (V.mv rfl) ?_; refine RU.rd (V.slLoNil e148 rfl rfl) ?_
    refine RU.nil ?_; refine RX.seq ?_; refine RX.region ?_; refine RU.rd (V.mv rfl) ?_; refine RU.rd (V.len u148 rfl) ?_; refine RU.rd (V.as rfl) ?_; refine RU.nil ?_; refine RX.seq ?_; refine RX.seq ?_; refine RX.region ?_
    refine RU.rd (V.mv rfl) ?_; refine RU.rd (V.eql rfl rfl) ?_; refine RU.nil ?_; refine RX.condF rfl ?_; refine RX.skip ?_; refine RX.seq ?_; refine RX.region ?_; refine RU.rd (V.mv rfl) ?_; refine RU.rd (V.len u148 rfl) ?_
    refine RU.rd (V.as rfl) ?_; refine RU.nil ?_; refine RX.seq ?_; refine RX.seq ?_; refine RX.region ?_; refine RU.rd (V.mv rfl) ?_; refine RU.rd (V.mv rfl) ?_; refine RU.rd (V.eql rfl rfl) ?_; refine RU.nil ?_
    refine RX.condT rfl ?_; refine RX.seq ?_; refine RX.region ?_; refine RU.rd (V.mv rfl) ?_; refine RU.rd (V.mv rfl) ?_
    refine RU.lo (L.appS hC e148 u148 z147 rfl by147 rfl rfl hs ho hv rfl rfl (by rw [hln, celR_length]; omega) (fun b _ h => h) fun u w1 hC1 ch1 hO1 hin => ?_)
    have eg : gcs encR G ++ celC encR x = gcs encR (G ++ [x]) := by simp only [gcs, rws_append]; simp [rws]
    rw [eg] at hO1
    refine RU.rd (V.as rfl) ?_; refine RU.nil ?_; refine RX.rt Tryz.func80 (by rfl) (ResOk.tmp rfl (ResOk.nil)) ?_
    exact ⟨hC1, hO1, hin⟩
  · skip
    refine calls_of_rx (args := [_, _, _]) (e := [(0, _), (1, _), (2, _)]) (n := 95) Tryz.func80 rfl rfl rfl (by kernel_rfl) rfl ?_
    have hC := Ch.refl (inSl (.slice (some ⟨b, 0, none⟩) G.length c)) w
    have uq := True.intro
    refine RX.seq ?_; refine RX.region ?_; refine RU.rd (V.as rfl) ?_; refine RU.nil ?_; refine RX.seq ?_; refine RX.region ?_; refine RU.rd (V.mv rfl) ?_; refine RU.rd (V.mv rfl) ?_
    refine RU.rd (V.slLo e148 rfl rfl (by omega)) ?_; refine RU.nil ?_; refine RX.seq ?_; refine RX.region ?_; refine RU.rd (V.mv rfl) ?_; refine RU.rd (V.len u148 rfl) ?_; refine RU.rd (V.as rfl) ?_; refine RU.nil ?_
    refine RX.seq ?_; refine RX.seq ?_; refine RX.region ?_; refine RU.rd (V.mv rfl) ?_; refine RU.rd (V.eql rfl rfl) ?_; refine RU.nil ?_; refine RX.condF rfl ?_; refine RX.skip ?_; refine RX.seq ?_; refine RX.region ?_
    refine RU.rd (V.mv rfl) ?_; refine RU.rd (V.len u148 rfl) ?_; refine RU.rd (V.as rfl) ?_; refine RU.nil ?_; refine RX.seq ?_; refine RX.seq ?_; refine RX.region ?_; refine RU.rd (V.mv rfl) ?_; refine RU.rd (V.mv rfl) ?_
    refine RU.rd (V.eql rfl rfl) ?_; refine RU.nil ?_; refine RX.condD rfl (fun h1 => ?_) (fun _ => by omega); refine RX.seq ?_; refine RX.region ?_; refine RU.rd (V.mv rfl) ?_; refine RU.rd (V.mv rfl) ?_
    refine RU.lo (L.appS hC e148 u148 z147 rfl by147 rfl rfl hs ho hv rfl rfl (by rw [hln, celR_length]; omega) (fun b _ h => h) fun u w1 hC1 ch1 hO1 hin => ?_)
    have eg : gcs encR G ++ celC encR x = gcs encR (G ++ [x]) := by simp only [gcs, rws_append]; simp [rws]
    rw [eg] at hO1
    refine RU.rd (V.as rfl) ?_; refine RU.nil ?_; refine RX.rt Tryz.func80 (by rfl) (ResOk.tmp rfl (ResOk.nil)) ?_
    exact ⟨hC1, hO1, hin⟩
theorem Own.rdN {w : World} {w0 sz n : Nat} {T : TypeId} {v : Value} {cs : List Value} (h : Own w0 w sz T v cs) (hn : cs.length = n * sz) (hs : 0 < sz) : Rd w sz v n cs := by
  obtain ⟨m, hm⟩ := h.rd
  have h1 := hm.length
  have : m = n := by
    have : m * sz = n * sz := by omega
    exact Nat.eq_of_mul_eq_mul_right hs this
  rw [← this]; exact hm
/-- The referenda behind one has been laid. -/
def putR (rs : List Rfd) (b : Int) (x : Rfd) : List Rfd := if b < rs.length then rs.set b.toNat x else rs ++ [x]
theorem celR_set (k : Int × Int) (y x : Rfd) : setAt (celC encR (k, y)) 2 (encR x) = celC encR (k, x) := rfl
theorem c54 {w : World} {gb : Nat} {gv : Value} {rs : List Rfd} {b : Int} {x : Rfd} (hg : RGrd w gb gv rs) (hn : rs.length < 1000) (hb : 0 ≤ b ∧ b ≤ rs.length) : Calls Tryz.prog 54 #[.pointer (some ⟨gb, 0, none⟩), .int .i64 0, .int .i64 b, .agg (encR x).toArray] w
    (Ret fun v w' => v = .tuple #[] ∧ Ch (· = gb) w w' ∧ ∃ gv', RGrd w' gb gv' (putR rs b x) ∧ ∀ c, inSl gv' c → w.heap.size ≤ c) := by
  have hsb := hg.sb
  have lgb := hsb.lt
  refine calls_of_rx (args := [_, _, _, _]) (e := [(0, _), (1, _), (2, _), (3, _)]) (n := 44) Tryz.func54 rfl rfl rfl (by kernel_rfl) rfl ?_
  have hC := Ch.refl (· = gb) w
  have uq := True.intro
  refine RX.seq ?_; refine RX.region ?_; refine RU.lo (L.bx hC rfl fun b1 w1 hb1 le1 hC1 gr1 hz1 hB1 => ?_); refine RU.nil ?_; refine RX.seq ?_; refine RX.seq ?_; refine RX.region ?_; refine RU.rd (V.mv rfl) ?_
  refine RU.rd (V.eqNil u88 rfl rfl) ?_; refine RU.nil ?_; refine RX.condF rfl ?_; refine RX.skip ?_; refine RX.seq ?_; refine RX.region ?_; refine RU.rd (V.mv rfl) ?_; refine RU.rd (V.mv rfl) ?_; refine RU.rd (V.mv rfl) ?_
  refine RU.lo (L.call fn64 rfl (c64 (b := b) (hg.gr gr1) (by omega)) ?_)
  rintro _ w2 ⟨i, rfl, hi1, hi2, gr2⟩
  have hC2 := hC1.trans (.of_grow gr2)
  replace hB1 := hB1.gr gr2
  have hg2 := (hg.gr gr1).gr gr2
  have hsb := hg2.sb
  refine RU.rd (V.mv rfl) ?_; refine RU.rd (V.ext rfl rfl) ?_; refine RU.rd (V.ext rfl rfl) ?_; refine RU.rd (V.as rfl) ?_; refine RU.rd (V.as rfl) ?_; refine RU.nil ?_; refine RX.seq ?_; refine RX.region ?_
  refine RU.rd (V.mv rfl) ?_; refine RU.rd (V.nck rfl) ?_; refine RU.rd (V.fld0 f150_0 rfl) ?_; refine RU.rd (V.ld s148 rfl (cur hsb) rfl) ?_
  refine RU.lo (L.call fn79 rfl (c79 hg2.rd (refG_len rs).symm (by rw [refG_len]; omega)) ?_)
  rintro s w3 ⟨gr3, hO3⟩
  have hC3 := hC2.trans (.of_grow gr3)
  replace hB1 := hB1.gr gr3
  replace hsb := hsb.gr gr3
  have z1 := gr1.size
  have z2 := gr2.size
  have z3 := gr3.size
  refine RU.rd (V.as rfl) ?_; refine RU.nil ?_; refine RX.seq ?_; refine RX.seq ?_; refine RX.region ?_; refine RU.rd (V.mv rfl) ?_; refine RU.nil ?_; refine RX.condD rfl (fun h1 => ?_) fun h1 => ?_
  · have h1' : 0 ≤ b ∧ b < rs.length := by assumption
    obtain rfl := hi1 h1'
    obtain ⟨b3, n3, c3, sp3, rfl, le3, hn3, hB3, hown⟩ := Own.opn hO3 (by rw [gcsR_len, refG_len]; omega)
    have hn3 : n3 = rs.length := by rw [gcsR_len, refG_len] at hn3; omega
    subst hn3
    have ln3 : (gcs encR (refG rs) ++ sp3).length = rs.length * 47 + sp3.length := by rw [List.length_append, gcsR_len, refG_len]
    have le3' : b3 ≥ w2.heap.size := le3
    clear le3
    have hlt3 := hB3.lt
    have hsx : setAt (gcs encR (refG rs) ++ sp3) (0 + i.toNat * 47 + 2) (encR x) = gcs encR (refG (rs.set i.toNat x)) ++ sp3 := by
      rw [gcs, rws_set0 celR_length sp3 (refG rs) i.toNat 2 (by rw [refG_len]; omega) (encR x) ((0, ((i.toNat : Nat) : Int)), x) (by rw [encR_length]; omega) (by rw [refG_at]; exact celR_set _ _ _), refG_set, gcs]
    have hpr : putR rs i x = rs.set i.toNat x := by unfold putR; rw [if_pos h1'.2]
    rw [hpr]
    refine RX.region ?_; refine RU.rd (V.mv rfl) ?_; refine RU.rd (V.mv rfl) ?_
    refine RU.rd (V.ldA a44 rfl (cur hB1) (vs := [_, _, _, _, _, _, _, _, _, _, _, _, _, _, _, _, _, _, _, _, _, _, _, _, _, _, _, _, _, _, _, _, _, _, _, _, _, _, _, _, _, _, _, _, _]) rfl rfl) ?_
    refine RU.rd (V.idx e148 rfl rfl (by omega)) ?_; refine RU.rd (V.fld f147_1 rfl) ?_; refine RU.lo0 (L.st hC3 sz44 rfl rfl rfl rfl hB3 (by omega) (.inl (by omega)) fun w4 hC4 ch4 hz4 hB4 => ?_)
    have hB1 := hB1.ch ch4 (by omega); have hsb := hsb.ch ch4 (by omega); refine RU.nil ?_; refine RX.region ?_; refine RU.rd (V.mv rfl) ?_; refine RU.rd (V.mv rfl) ?_; refine RU.rd (V.nck rfl) ?_
    refine RU.rd (V.fld0 f150_0 rfl) ?_; refine RU.lo0 (L.st hC4 sz148 rfl rfl rfl rfl hsb (Nat.le_of_ble_eq_true rfl) (.inr rfl) fun w5 hC5 ch5 hz5 hB5 => ?_); have hB4 := hB4.ch ch5 (by omega)
    have hB1 := hB1.ch ch5 (by omega); refine RU.nil ?_; refine RX.rtEnd Tryz.func54 (by rfl) (ResOk.nil) ?_
    have hO5 := hown (gcs encR (refG (rs.set i.toNat x))) w5 (by rw [gcsR_len, gcsR_len, refG_len, refG_len, List.length_set]) (by rw [← hsx]; exact hB4)
    exact ⟨rfl, by assumption, _, ⟨hB5, Own.rdN hO5 (by rw [gcsR_len, refG_len]) (by decide), by rintro ⟨o, n, c, h⟩; cases h; omega⟩, by rintro c ⟨o, n, c', h⟩; cases h; omega⟩
  · have h1' : b = rs.length := by omega
    subst h1'
    obtain rfl := hi2 (Int.le_refl _)
    have hpr : putR rs rs.length x = rs ++ [x] := by unfold putR; rw [if_neg (by omega)]
    rw [hpr]
    refine RX.region ?_; refine RU.rd (V.mv rfl) ?_; refine RU.rd (V.mv rfl) ?_; refine RU.rd (V.mv rfl) ?_; refine RU.rd (V.mv rfl) ?_; refine RU.rd (V.bldA ar145 z145 rfl rfl) ?_
    refine RU.rd (V.ldA a44 rfl (cur hB1) (vs := [_, _, _, _, _, _, _, _, _, _, _, _, _, _, _, _, _, _, _, _, _, _, _, _, _, _, _, _, _, _, _, _, _, _, _, _, _, _, _, _, _, _, _, _, _]) rfl rfl) ?_
    refine RU.rd (V.bld bf147 z147 rfl rfl) ?_; have l4_hB1 := hB1.lt; have l4_hsb := hsb.lt; refine RU.lo (L.bsl hC3 e148 z147 rfl rfl rfl rfl fun b4 w4 hb4 le4 hC4 gr4 hz4 hB4 => ?_); have hB1 := hB1.gr gr4
    have hsb := hsb.gr gr4
    have hcl : Calls Tryz.prog 80 #[s, .int .i64 (refG rs).length, .slice (some ⟨b4, 0, none⟩) 1 1] w4 _ := c80 (x := ((0, (rs.length : Int)), x)) (hO3.gr gr4) (by have := gr4.size; omega) (.some (n := 1) hB4 (Nat.le_refl _) rfl) (by rw [refG_len]; omega)
    rw [refG_len, refG_app] at hcl
    have z4 := gr4.size
    refine RU.lo (L.call fn80 rfl hcl ?_)
    rintro s5 w5 ⟨ch5, hO5, hin5⟩
    have hl3 := hO3.lt
    have hC5 := hC4.trans' ch5 (fun b hb hs => by have := (hl3 b hs).1; omega)
    replace hsb := hsb.ch ch5 (fun h => by have := (hl3 _ h).1; omega)
    obtain ⟨p5, n5, c5, rfl⟩ := hO5.isSl
    clear hB1 hB4
    refine RU.rd (V.as rfl) ?_; refine RU.nil ?_; refine RX.region ?_; refine RU.rd (V.mv rfl) ?_; refine RU.rd (V.mv rfl) ?_; refine RU.rd (V.nck rfl) ?_; refine RU.rd (V.fld0 f150_0 rfl) ?_
    refine RU.lo0 (L.st hC5 sz148 rfl rfl rfl rfl hsb (Nat.le_of_ble_eq_true rfl) (.inr rfl) fun w6 hC6 ch6 hz6 hB6 => ?_); refine RU.nil ?_; refine RX.rtEnd Tryz.func54 (by rfl) (ResOk.nil) ?_
    have hlo : ∀ b, inSl (.slice p5 n5 c5) b → w2.heap.size ≤ b := fun b h => by
      rcases hin5 b h with h | h
      · exact (hl3 b h).1
      · omega
    have hO6 := hO5.ch ch6 (by rintro b hx rfl; have := hlo _ hx; omega)
    exact ⟨rfl, by assumption, _, ⟨hB6, Own.rdN hO6 (by rw [gcsR_len, refG_len]) (by decide), fun h => by have := hlo _ h; omega⟩, fun c h => by have := hlo _ h; omega⟩
end Go.Proofs.YtmcfbinkofoagaaGreat
