/- A batch does its calls one behind the other, up to the first that errs; what was done stays. -/
import Derived.Test.YtmcfbinkofoagaaGreatIA
namespace Go.Proofs.YtmcfbinkofoagaaGreat
open Go Go.RowKit Sx Go.Proofs

def spC (n : Int) : List Value := [.int .i64 2, .int .i64 1, .int .i64 n, .slice none 0 0]
theorem spC_length (n : Int) : (spC n).length = 4 := rfl
theorem spsC_len (ns : List Int) : (rws spC ns).length = ns.length * 4 := rws_length spC_length ns
theorem calR_batch {B : Nat → Prop} {w : World} {b c : Nat} {ns : List Int} {sp : List Value} {T : TypeId} (hB : B b) (hb : Blk w b (rws spC ns ++ sp) T) (h0 : 0 < ns.length) :
    CalR B w (.mk 5 0 0 (ns.map spTo)) [.int .i64 5, .int .i64 0, .int .i64 0, .slice (some ⟨b, 0, none⟩) ns.length c] := by
  have hl : (ns.map spTo).length = ns.length := List.length_map ..
  rw [← hl]
  refine .kids hB hb.r (by omega) (by rw [List.length_append, spsC_len, hl]; omega) fun i hi => ?_
  rw [hl] at hi
  rw [Nat.zero_add, rws_at spC_length sp ns i hi, List.getElem_map]
  exact .nil
theorem plain_batch : ∀ ns : List Int, Cal.plainL (ns.map spTo)
  | [] => trivial
  | x :: r => ⟨by simp [spTo, Cal.plain], plain_batch r⟩
theorem sz_batch : ∀ ns : List Int, Cal.szL (ns.map spTo) = ns.length
  | [] => rfl
  | x :: r => by
    have := sz_batch r
    simp only [List.map_cons, Cal.szL, spTo, Cal.sz, List.length_cons] at this ⊢; omega
theorem is_batch {deep : Int} : ∀ ns : List Int, (∀ n ∈ ns, 0 ≤ n ∧ n ≤ 1073741824) → Cal.isL deep (ns.map spTo) = true
  | [], _ => rfl
  | x :: r, h => by
    have h1 := h x (by simp)
    have := is_batch (deep := deep) r fun y hy => h y (by simp [hy])
    simp only [List.map_cons, Cal.isL, this, Bool.and_true, spTo, Cal.isB]
    simp [h1]
theorem Own.evs {w : World} {w0 : Nat} {T : TypeId} {v : Value} {l : List (Int × Int × Int)} (h : Own w0 w 3 T v (evsC l)) : ∃ p c, v = .slice p l.length c := by
  obtain ⟨m, hm⟩ : ∃ m, evsC l = m := ⟨_, rfl⟩
  have hl := evsC_len l
  rw [hm] at h hl
  cases h with
  | nil => have : l.length = 0 := by simp at hl; omega
           exact ⟨_, _, by rw [this]⟩
  | some h0 hb hl' hc ht hn => rename_i b n c all
                               have : n = l.length := by omega
                               subst this; exact ⟨_, _, rfl⟩
theorem does_batch {of cap : Int} {l : List Cal} {D : Led} : (Cal.mk 5 0 0 l).does of cap D = Cal.doesL of cap l D := by
  rw [Cal.does, if_neg (by decide), if_neg (by decide)]
theorem kidN_bd (l : List Int) (bad : Int) (j : Nat) : 0 ≤ kidN l bad j ∧ kidN l bad j ≤ 51 := by unfold kidN; split <;> omega
theorem kidsN_bd {l : List Int} {bad x : Int} (h : x ∈ kidsN l bad) : 0 ≤ x ∧ x ≤ 51 := by
  obtain ⟨i, -, rfl⟩ := List.mem_map.1 h
  exact kidN_bd l bad i

theorem c5 {w : World} {v : Value} {l : List Int} {bad : Int} (hl : RdI w v l) : Calls Tryz.prog 5 #[v, .int .i64 bad] w (Ret fun v w' => v = .bool true ∧ Grow w w') := by
  obtain ⟨p, off, c, rfl, ax0⟩ := hl
  refine calls_of_rx (args := [_, _]) (e := [(0, _), (1, _)]) (n := 129) Tryz.func5 rfl rfl rfl (by kernel_rfl) rfl ?_
  have hC := Ch.refl Nil w
  have uq := True.intro
  by_cases hg : (l.length : Int) < 1 ∨ 4 < (l.length : Int) ∨ bad < 0 ∨ 8 < bad
  · clear ax0
    refine RX.seq ?_; refine RX.region ?_; refine RU.rd (V.as rfl) ?_; refine RU.nil ?_; refine RX.seq ?_; refine RX.seq ?_; refine RX.region ?_; refine RU.rd (V.mv rfl) ?_; refine RU.rd (V.len u49 rfl) ?_
    refine RU.rd (V.lss rfl rfl) ?_; refine RU.rd (V.mv rfl) ?_; refine RU.splitD (fun h1 => ?_) fun h1 => ?_
    · refine RU.sk rfl rfl rfl ?_; refine RU.sk rfl rfl rfl ?_; refine RU.sk rfl rfl rfl ?_; refine RU.rd (V.pickT rfl rfl) ?_; refine RU.rd (V.mv rfl) ?_; refine RU.sk rfl rfl rfl ?_; refine RU.sk rfl rfl rfl ?_
      refine RU.rd (V.pickT rfl rfl) ?_; refine RU.rd (V.mv rfl) ?_; refine RU.sk rfl rfl rfl ?_; refine RU.sk rfl rfl rfl ?_; refine RU.rd (V.pickT rfl rfl) ?_; refine RU.nil ?_; refine RX.condT rfl ?_; refine RX.seq ?_
      refine RX.region ?_; refine RU.rd (V.as rfl) ?_; refine RU.nil ?_; refine RX.rt Tryz.func5 (by rfl) (ResOk.tmp rfl (ResOk.nil)) ?_; exact ⟨rfl, by assumption⟩
    · refine RU.rdG rfl rfl (V.mv rfl) ?_; refine RU.rdG rfl rfl (V.len u49 rfl) ?_; refine RU.rdG rfl rfl (V.gtr rfl rfl) ?_; refine RU.rd (V.pickF rfl rfl) ?_; refine RU.rd (V.mv rfl) ?_
      refine RU.splitD (fun h2 => ?_) fun h2 => ?_
      · refine RU.sk rfl rfl rfl ?_; refine RU.sk rfl rfl rfl ?_; refine RU.rd (V.pickT rfl rfl) ?_; refine RU.rd (V.mv rfl) ?_; refine RU.sk rfl rfl rfl ?_; refine RU.sk rfl rfl rfl ?_; refine RU.rd (V.pickT rfl rfl) ?_
        refine RU.nil ?_; refine RX.condT rfl ?_; refine RX.seq ?_; refine RX.region ?_; refine RU.rd (V.as rfl) ?_; refine RU.nil ?_; refine RX.rt Tryz.func5 (by rfl) (ResOk.tmp rfl (ResOk.nil)) ?_
        exact ⟨rfl, by assumption⟩
      · refine RU.rdG rfl rfl (V.mv rfl) ?_; refine RU.rdG rfl rfl (V.lss rfl rfl) ?_; refine RU.rd (V.pickF rfl rfl) ?_; refine RU.rd (V.mv rfl) ?_; refine RU.splitD (fun h3 => ?_) fun h3 => ?_
        · refine RU.sk rfl rfl rfl ?_; refine RU.sk rfl rfl rfl ?_; refine RU.rd (V.pickT rfl rfl) ?_; refine RU.nil ?_; refine RX.condT rfl ?_; refine RX.seq ?_; refine RX.region ?_; refine RU.rd (V.as rfl) ?_
          refine RU.nil ?_; refine RX.rt Tryz.func5 (by rfl) (ResOk.tmp rfl (ResOk.nil)) ?_; exact ⟨rfl, by assumption⟩
        · refine RU.rdG rfl rfl (V.mv rfl) ?_; refine RU.rdG rfl rfl (V.gtr rfl rfl) ?_; refine RU.rd (V.pickF rfl rfl) ?_; refine RU.nil ?_; refine RX.condD rfl (fun h4 => ?_) (fun _ => by omega); refine RX.seq ?_
          refine RX.region ?_; refine RU.rd (V.as rfl) ?_; refine RU.nil ?_; refine RX.rt Tryz.func5 (by rfl) (ResOk.tmp rfl (ResOk.nil)) ?_; exact ⟨rfl, by assumption⟩
  have g1 : 1 ≤ l.length ∧ l.length ≤ 4 ∧ 0 ≤ bad ∧ bad ≤ 8 := by omega
  clear hg
  refine RX.seq ?_; refine RX.region ?_; refine RU.rd (V.as rfl) ?_; refine RU.nil ?_; refine RX.seq ?_; refine RX.seq ?_; refine RX.region ?_; refine RU.rd (V.mv rfl) ?_; refine RU.rd (V.len u49 rfl) ?_
  refine RU.rd (V.lss rfl rfl) ?_; refine RU.rd (V.mv rfl) ?_; refine RU.splitD (fun _ => by omega) fun h1 => ?_; refine RU.rdG rfl rfl (V.mv rfl) ?_; refine RU.rdG rfl rfl (V.len u49 rfl) ?_
  refine RU.rdG rfl rfl (V.gtr rfl rfl) ?_; refine RU.rd (V.pickF rfl rfl) ?_; refine RU.rd (V.mv rfl) ?_; refine RU.splitD (fun _ => by omega) fun h2 => ?_; refine RU.rdG rfl rfl (V.mv rfl) ?_
  refine RU.rdG rfl rfl (V.lss rfl rfl) ?_; refine RU.rd (V.pickF rfl rfl) ?_; refine RU.rd (V.mv rfl) ?_; refine RU.splitD (fun _ => by omega) fun h3 => ?_; refine RU.rdG rfl rfl (V.mv rfl) ?_
  refine RU.rdG rfl rfl (V.gtr rfl rfl) ?_; refine RU.rd (V.pickF rfl rfl) ?_; refine RU.nil ?_; refine RX.condD rfl (fun _ => by omega) fun h4 => ?_; refine RX.skip ?_; refine RX.seq ?_; refine RX.region ?_
  refine RU.lo (L.call fn9 rfl (c9 (fr := []) (w := w) (v := .slice none 0 0) .nil) ?_)
  rintro _ w1 ⟨q, rfl, gr1, hab, -, hP⟩
  have hla := hP.hl.lt q.g.ab (.inr (.inl rfl))
  have hpl := hP.hp.lt
  clear hC
  have hC := Ch.refl Nil w1
  refine RU.rd (V.as rfl) ?_; refine RU.nil ?_; refine RX.seq ?_; refine RX.seq ?_; refine RX.region ?_; refine RU.rd (V.mv rfl) ?_; refine RU.rd (V.eqNil u22 rfl rfl) ?_; refine RU.nil ?_; refine RX.condF rfl ?_
  refine RX.skip ?_; refine RX.seq ?_; refine RX.region ?_; refine RU.rd (V.bld bf26 z26 rfl rfl) ?_; refine RU.lo (L.al hC z26 fun b2 w2 hb2 le2 hC2 gr2 hz2 hB2 => ?_)
  refine RU.lo0 (L.stN hC2 sz26 rfl rfl rfl rfl hB2 rfl le2 fun w3 hC3 ch3 hz3 hB2 => ?_); refine RU.nil ?_; refine RX.seq ?_; refine RX.region ?_; refine RU.rd (V.as rfl) ?_; refine RU.nil ?_; refine RX.seq ?_
  refine RX.seq ?_; refine RX.region ?_; refine RU.rd (V.as rfl) ?_; refine RU.nil ?_; refine RX.block ?_
  obtain ⟨b0, cs0, rfl, hbv0, -⟩ := ax0 0 (by omega)
  have ax : ∀ j (_ : j < l.length), cs0[off + j * 1]? = some (.int .i64 (l.getD j 0)) := by
    intro j hj
    obtain ⟨b', cs', e, hb', ha'⟩ := ax0 j hj
    cases e
    have : cs' = cs0 := by
      apply List.ext_getElem?
      intro k; rw [← hb'.cell k, hbv0.cell k]
    rw [← this]; exact ha'
  clear ax0
  have hbv := hbv0.gr gr1
  have lb0 := hbv.lt
  have hK : Blk w3 b2 [.int .i64 5, .int .i64 0, .int .i64 0, .slice none 0 0] 26 := hB2
  refine RX.keep [(0, _), (1, _), (5, _), (6, _), (7, _), (8, _)] ⟨rfl, rfl, rfl, rfl, rfl, rfl, trivial⟩ ?_
  refine RX.loop (fun d e w' => ∃ i : Nat, d = l.length - i ∧ i ≤ l.length ∧ ∃ u, e = [(0, .slice (some ⟨b0, off, none⟩) l.length c), (1, .int .i64 bad), (5, .pointer (some ⟨q.pb, 0, none⟩)), (6, .pointer (some ⟨b2, 0, none⟩)), (7, .int .i64 (sumI ((kidsN l bad).take (min i bad.toNat)))), (8, .int .i64 i)] ∧
    Grow w1 w' ∧ Blk w' b2 [.int .i64 5, .int .i64 0, .int .i64 0, u] 26 ∧ Own w1.heap.size w' 4 26 u (rws spC ((kidsN l bad).take i)) ∧ ¬ inSl u b2) (l.length - 0) ⟨0, rfl, by omega, .slice none 0 0, by simp [sumI], hC3, hK, .nil, inSl.no⟩ ?_
  clear hK hB2 hC hC2 hC3 ch3 hz3 gr2 hz2 hbv0
  rintro d e w' ⟨i, rfl, hi, u, rfl, hC, hK, hO, hu⟩ ih
  have hbv' := hbv.gr hC
  obtain ⟨pu, nu, cu, rfl⟩ := hO.isSl
  refine RX.seq ?_; refine RX.seq ?_; refine RX.region ?_; refine RU.rd (V.mv rfl) ?_; refine RU.rd (V.mv rfl) ?_; refine RU.rd (V.len u49 rfl) ?_; refine RU.rd (V.lss rfl rfl) ?_; refine RU.nil ?_
  refine RX.condD rfl (fun h5 => ?_) fun h5 => ?_
  · have hi' : i < l.length := by omega
    have at1 : ∀ j (_ : j = i), cs0[off + j * 1]? = some (.int .i64 (l.getD i 0)) := by rintro j rfl; exact ax j hi'
    have htk := kidsN_take l bad hi'
    have ln0 : ((kidsN l bad).take i).length = i := by rw [List.length_take, kidsN_len]; omega
    refine RX.skip ?_; refine RX.seq ?_; refine RX.block ?_; refine RX.seq ?_; refine RX.region ?_; refine RU.rd (V.mv rfl) ?_; refine RU.rd (V.mv rfl) ?_; refine RU.rd (V.idx e49 rfl rfl (by omega)) ?_
    refine RU.rd (V.ldR s3 rfl (cur hbv') (at1 _ (by omega))) ?_; refine RU.rd (V.and (m := 3) rfl (by decide) rfl rfl) ?_; refine RU.rd (V.as rfl) ?_; refine RU.nil ?_; refine RX.seq ?_; refine RX.seq ?_; refine RX.region ?_
    refine RU.rd (V.mv rfl) ?_; refine RU.rd (V.mv rfl) ?_; refine RU.rd (V.eql rfl rfl) ?_; refine RU.nil ?_; refine RX.condD rfl (fun h6 => ?_) fun h6 => ?_
    · refine RX.seq ?_; refine RX.region ?_; refine RU.rd (V.fld0 f26_3 rfl) ?_; refine RU.rd (V.ld s24 rfl (cur hK) rfl) ?_; refine RU.rd (V.bld bf26 z26 rfl rfl) ?_; have l4_hbv' := hbv'.lt; have l4_hK := hK.lt
      refine RU.lo (L.bsl hC e24 z26 rfl rfl rfl rfl fun b4 w4 hb4 le4 hC4 gr4 hz4 hB4 => ?_); have hbv' := hbv'.gr gr4; have hK := hK.gr gr4
      refine RU.lo (L.app hC4 e24 u24 z26 rfl by26 rfl rfl (hO.gr gr4) (show Rd w4 4 (.slice (some ⟨b4, 0, none⟩) 1 1) 1 (spC (51)) from .some (n := 1) hB4 (Nat.le_refl _) rfl) rfl rfl (by rw [spsC_len, ln0]; simp [spC]; omega) fun u' w6 hC6 ch6 hO6 hin => ?_)
      obtain ⟨p6, n6, c6, rfl⟩ := hO6.isSl
      have hK6 := hK.ch ch6 hu
      have hbv6 := hbv.gr hC6
      have hu6 : ¬ inSl (.slice p6 n6 c6) b2 := fun h => by rcases hin _ h with h | h; exact hu h; omega
      have ek : kidN l bad i = 51 := by unfold kidN; rw [if_pos (by omega)]
      have eo : rws spC ((kidsN l bad).take i) ++ spC (51) = rws spC ((kidsN l bad).take (i + 1)) := by rw [htk, rws_append, ek]; simp [rws]
      rw [eo] at hO6
      clear hbv' hB4 hK eo
      refine RU.rd (V.fld0 f26_3 rfl) ?_; refine RU.lo0 (L.stN hC6 sz24 rfl rfl rfl rfl hK6 rfl le2 fun w5 hC5 ch5 hz5 hK6 => ?_); have hbv6 := hbv6.ch ch5 (by omega); refine RU.nil ?_; refine RX.exit rfl ?_
      refine RX.region ?_; refine RU.rd (V.mv rfl) ?_; refine RU.rd (V.add rfl rfl (by omega)) ?_; refine RU.rd (V.as rfl) ?_; refine RU.nil ?_
      have hO7 := hO6.ch ch5 (by rintro b hb rfl; exact hu6 hb)
      refine RX.keep [(0, _), (1, _), (5, _), (6, _), (7, _), (8, _)] ⟨rfl, rfl, rfl, rfl, rfl, rfl, trivial⟩ ?_
      refine ih (l.length - (i + 1)) (by omega) _ _ ⟨i + 1, rfl, by omega, _, ?_, hC5, by assumption, hO7, hu6⟩
      rw [show min (i + 1) bad.toNat = min i bad.toNat by omega]; rfl
    · refine RX.skip ?_; refine RX.seq ?_; refine RX.region ?_; refine RU.rd (V.fld0 f26_3 rfl) ?_; refine RU.rd (V.ld s24 rfl (cur hK) rfl) ?_; refine RU.rd (V.mv rfl) ?_; refine RU.rd (V.bld bf26 z26 rfl rfl) ?_
      have l4_hbv' := hbv'.lt; have l4_hK := hK.lt; refine RU.lo (L.bsl hC e24 z26 rfl rfl rfl rfl fun b4 w4 hb4 le4 hC4 gr4 hz4 hB4 => ?_); have hbv' := hbv'.gr gr4; have hK := hK.gr gr4
      refine RU.lo (L.app hC4 e24 u24 z26 rfl by26 rfl rfl (hO.gr gr4) (show Rd w4 4 (.slice (some ⟨b4, 0, none⟩) 1 1) 1 (spC (l.getD i 0 % 8)) from .some (n := 1) hB4 (Nat.le_refl _) rfl) rfl rfl (by rw [spsC_len, ln0]; simp [spC]; omega) fun u' w6 hC6 ch6 hO6 hin => ?_)
      obtain ⟨p6, n6, c6, rfl⟩ := hO6.isSl
      have hK6 := hK.ch ch6 hu
      have hbv6 := hbv.gr hC6
      have hu6 : ¬ inSl (.slice p6 n6 c6) b2 := fun h => by rcases hin _ h with h | h; exact hu h; omega
      have ek : kidN l bad i = l.getD i 0 % 8 := by unfold kidN; rw [if_neg (by omega)]
      have eo : rws spC ((kidsN l bad).take i) ++ spC (l.getD i 0 % 8) = rws spC ((kidsN l bad).take (i + 1)) := by rw [htk, rws_append, ek]; simp [rws]
      rw [eo] at hO6
      clear hbv' hB4 hK eo
      refine RU.rd (V.fld0 f26_3 rfl) ?_; refine RU.lo0 (L.stN hC6 sz24 rfl rfl rfl rfl hK6 rfl le2 fun w5 hC5 ch5 hz5 hK6 => ?_); have hbv6 := hbv6.ch ch5 (by omega); refine RU.nil ?_; refine RX.seq ?_; refine RX.region ?_
      refine RU.rd (V.mv rfl) ?_; refine RU.rd (V.mv rfl) ?_; refine RU.rd (V.lss rfl rfl) ?_; refine RU.nil ?_; refine RX.condD rfl (fun h7 => ?_) fun h7 => ?_
      · have e3 : sumI ((kidsN l bad).take (min (i + 1) bad.toNat)) = sumI ((kidsN l bad).take (min i bad.toNat)) + l.getD i 0 % 8 := by
          rw [show min (i + 1) bad.toNat = i + 1 by omega, show min i bad.toNat = i by omega, htk, ek, sumI_append]; simp [sumI]
        have hs7 := sumI_le ((kidsN l bad).take (min i bad.toNat)) (by
          intro x hx
          obtain ⟨j, hj, rfl⟩ := List.mem_iff_getElem.1 hx
          rw [List.length_take] at hj
          rw [List.getElem_take, kidsN_at]
          unfold kidN; rw [if_neg (by omega)]; omega)
        have hs8 : ((kidsN l bad).take (min i bad.toNat)).length ≤ 4 := by rw [List.length_take, kidsN_len]; omega
        refine RX.region ?_; refine RU.rd (V.mv rfl) ?_; refine RU.rd (V.mv rfl) ?_; refine RU.rd (V.add rfl rfl (by omega)) ?_; refine RU.rd (V.as rfl) ?_; refine RU.nil ?_; refine RX.inBlock ?_; refine RX.region ?_
        refine RU.rd (V.mv rfl) ?_; refine RU.rd (V.add rfl rfl (by omega)) ?_; refine RU.rd (V.as rfl) ?_; refine RU.nil ?_
        have hO7 := hO6.ch ch5 (by rintro b hb rfl; exact hu6 hb)
        refine RX.keep [(0, _), (1, _), (5, _), (6, _), (7, _), (8, _)] ⟨rfl, rfl, rfl, rfl, rfl, rfl, trivial⟩ ?_
        refine ih (l.length - (i + 1)) (by omega) _ _ ⟨i + 1, rfl, by omega, _, ?_, hC5, by assumption, hO7, hu6⟩
        rw [e3]; rfl
      · refine RX.skip ?_; refine RX.inBlock ?_; refine RX.region ?_; refine RU.rd (V.mv rfl) ?_; refine RU.rd (V.add rfl rfl (by omega)) ?_; refine RU.rd (V.as rfl) ?_; refine RU.nil ?_
        have hO7 := hO6.ch ch5 (by rintro b hb rfl; exact hu6 hb)
        refine RX.keep [(0, _), (1, _), (5, _), (6, _), (7, _), (8, _)] ⟨rfl, rfl, rfl, rfl, rfl, rfl, trivial⟩ ?_
        refine ih (l.length - (i + 1)) (by omega) _ _ ⟨i + 1, rfl, by omega, _, ?_, hC5, by assumption, hO7, hu6⟩
        rw [show min (i + 1) bad.toNat = min i bad.toNat by omega]; rfl
  · have : i = l.length := by omega
    subst this
    clear ih
    have hkl := kidsN_len l bad
    rw [List.take_of_length_le (by omega)] at hO
    obtain ⟨b6, n6, c6, sp6, hsl, le6, hn6, hB6, -⟩ := Own.opn hO (by rw [spsC_len, hkl]; omega)
    cases hsl
    have hn6 : nu = l.length := by rw [spsC_len, hkl] at hn6; omega
    subst hn6
    have hP' := hP.gr hC
    have hp := hP'.hp
    obtain ⟨D', evs, e1, e2, e3⟩ := batch_law l bad g1.2.2.1 g1.2.1
    have emin : min l.length bad.toNat = bad.toNat ∨ (kidsN l bad).take (min l.length bad.toNat) = (kidsN l bad).take bad.toNat := by
      by_cases h : bad.toNat ≤ l.length
      · left; omega
      · right; rw [List.take_of_length_le (by omega), List.take_of_length_le (by omega)]
    have e4 : sumI ((kidsN l bad).take (min l.length bad.toNat)) = sumI ((kidsN l bad).take bad.toNat) := by rcases emin with h | h <;> rw [h]
    rw [e4]
    have hs7 := sumI_le ((kidsN l bad).take bad.toNat) (by
      intro x hx
      obtain ⟨j, hj, rfl⟩ := List.mem_iff_getElem.1 hx
      rw [List.length_take] at hj
      rw [List.getElem_take, kidsN_at]
      unfold kidN; rw [if_neg (by omega)]; omega)
    have hs8 : ((kidsN l bad).take bad.toNat).length ≤ 4 := by rw [List.length_take]; omega
    refine RX.exit rfl ?_; refine RX.seq ?_
    refine RX.draw (Ch Nil w') [3, 7, 11, 12] [(0, true), (1, true), (2, true), (3, true), (4, true), (5, true), (6, true), (7, true), (8, true), (9, true), (10, true), (11, true), (12, true), (13, false), (14, true), (15, true), (16, true), (17, true), (18, true)] mixed (by kernel_rfl) fun w4 gr4 hz4 => ?_
    have hC4 := hC.trans (Ch.of_grow gr4); have hbv'd4 := hbv'.gr gr4; have hB6d4 := hB6.gr gr4; have hKd4 := hK.gr gr4; have hpd4 := hp.gr gr4; refine RD.rz rfl (V.mv rfl) ?_; refine RD.rz rfl (V.nck rfl) ?_
    refine RD.rz rfl (V.fld0 f38_0 rfl) ?_; refine RD.rd rfl rfl gr4 (V.ld s31 rfl (fun _ hS => hp.gr hS) rfl) ?_; refine RD.rz rfl (V.mv rfl) ?_; refine RD.rz rfl (V.nck rfl) ?_; refine RD.rz rfl (V.fld0 f38_1 rfl) ?_
    refine RD.rd rfl rfl gr4 (V.ld s32 rfl (fun _ hS => hp.gr hS) rfl) ?_; refine RD.rz rfl (V.mv rfl) ?_; refine RD.rz rfl (V.nck rfl) ?_; refine RD.rz rfl (V.fld0 f38_2 rfl) ?_
    refine RD.rd rfl rfl gr4 (V.ld s33 rfl (fun _ hS => hp.gr hS) rfl) ?_; refine RD.rd rfl rfl gr4 (V.ldA a26 rfl (fun _ hS => hK.gr hS) (vs := [_, _, _, _]) rfl rfl) ?_
    have hcr := calR_batch (B := (· ≠ q.g.ab)) (c := cu) (show b6 ≠ q.g.ab by omega) hB6d4 (by omega)
    rw [hkl] at hcr
    have hcl := c10 (of := 1) (now := 0) (hP.gr hC4) (startLed_ok []) hcr (by simp only [Cal.plain, List.length_map]; exact .inr (.inr ⟨trivial, by omega, plain_batch _⟩))
      (by simp only [Cal.isB, List.length_map, hkl, is_batch (deep := 0 + 1) (kidsN l bad) (fun n hn => by have := kidsN_bd hn; omega)]; simp; omega) (by simp only [Cal.sz, sz_batch]; omega) (by decide)
    rw [does_batch, cap1, e1] at hcl
    clear hbv'd4 hB6d4 hKd4 hpd4 hp hK hbv'
    by_cases hbl : bad < l.length
    · rw [if_pos hbl] at hcl e2
      refine RD.lf rfl (by kernel_rfl) (L.call fn10 rfl hcl ?_)
      rintro _ w5 ⟨s, rfl, hO5, ch5, hP5⟩
      have hC5 : Grow w w5 := (gr1.trans hC4).trans' ch5 (by rintro b hb rfl; omega)
      obtain ⟨ps, cs, rfl⟩ := Own.evs hO5
      have hp := hP5.hp
      have hL := hP5.hl
      dsimp only at hL e2
      have hh : ((kidsN l bad).take bad.toNat).length ≤ 4 := hs8
      refine RD.rz rfl (V.mv rfl) ?_; refine RD.rz rfl (V.ext rfl rfl) ?_; refine RD.rz rfl (V.ext rfl rfl) ?_; refine RD.rz rfl (V.as rfl) ?_; refine RD.rz rfl (V.as rfl) ?_; refine RD.nil ?_; refine RX.seq ?_
      refine RX.seq ?_; refine RX.region ?_; refine RU.rd (V.mv rfl) ?_; refine RU.rd (V.mv rfl) ?_; refine RU.rd (V.len u49 rfl) ?_; refine RU.rd (V.lss rfl rfl) ?_; refine RU.nil ?_
      refine RX.condD rfl (fun h6 => ?_) (fun _ => by omega); refine RX.seq ?_; refine RX.region ?_; refine RU.rd (V.mv rfl) ?_; refine RU.rd (V.eql rfl rfl) ?_; refine RU.rd (V.mv rfl) ?_
      refine RU.splitD (fun h7 => ?_) (fun _ => by contradiction); refine RU.rdG rfl rfl (V.mv rfl) ?_; refine RU.rdG rfl rfl (V.len u27 rfl) ?_; refine RU.rdG rfl rfl (V.mv rfl) ?_; refine RU.rdG rfl rfl (V.eql rfl rfl) ?_
      refine RU.rd (V.pickT rfl rfl) ?_; refine RU.rd (V.mv rfl) ?_; refine RU.splitD (fun h8 => ?_) (fun _ => by contradiction); refine RU.rdG rfl rfl (V.mv rfl) ?_; refine RU.rdG rfl rfl (V.nck rfl) ?_
      refine RU.rdG rfl rfl (V.fld0 f38_0 rfl) ?_; refine RU.rdG rfl rfl (V.ld s31 rfl (cur hp) rfl) ?_; refine RU.loG rfl rfl (L.call fn13 rfl (c13 hL) ?_); rintro _ w7 ⟨rfl, gr7⟩; have hC7 := hC5.trans (Ch.of_grow gr7)
      have hp := hp.gr gr7; refine RU.rdG rfl rfl (V.mv rfl) ?_; refine RU.rdG rfl rfl (V.add rfl rfl (by omega)) ?_; refine RU.rdG rfl rfl (V.eql rfl rfl) ?_; refine RU.rd (V.pickT rfl rfl) ?_; refine RU.rd (V.mv rfl) ?_
      refine RU.splitD (fun h9 => ?_) (fun _ => by omega); refine RU.loG rfl rfl (L.call fn12 rfl (c12) ?_); rintro _ w8 ⟨rfl, gr8⟩; have hC8 := hC7.trans (Ch.of_grow gr8); have hp := hp.gr gr8
      refine RU.rd (V.pickT rfl rfl) ?_; refine RU.rd (V.as rfl) ?_; refine RU.nil ?_; refine RX.rt Tryz.func5 (by rfl) (ResOk.tmp rfl (ResOk.nil)) ?_
      exact ⟨rfl, by assumption⟩
    · rw [if_neg hbl] at hcl e2
      refine RD.lf rfl (by kernel_rfl) (L.call fn10 rfl hcl ?_)
      rintro _ w5 ⟨s, rfl, hO5, ch5, hP5⟩
      have hC5 : Grow w w5 := (gr1.trans hC4).trans' ch5 (by rintro b hb rfl; omega)
      obtain ⟨ps, cs, rfl⟩ := Own.evs hO5
      have hp := hP5.hp
      have hL := hP5.hl
      dsimp only at hL e2
      have hh : ((kidsN l bad).take bad.toNat).length ≤ 4 := hs8
      refine RD.rz rfl (V.mv rfl) ?_; refine RD.rz rfl (V.ext rfl rfl) ?_; refine RD.rz rfl (V.ext rfl rfl) ?_; refine RD.rz rfl (V.as rfl) ?_; refine RD.rz rfl (V.as rfl) ?_; refine RD.nil ?_; refine RX.seq ?_
      refine RX.seq ?_; refine RX.region ?_; refine RU.rd (V.mv rfl) ?_; refine RU.rd (V.mv rfl) ?_; refine RU.rd (V.len u49 rfl) ?_; refine RU.rd (V.lss rfl rfl) ?_; refine RU.nil ?_
      refine RX.condD rfl (fun _ => by omega) fun h6 => ?_; refine RX.skip ?_; refine RX.seq ?_; refine RX.region ?_; refine RU.rd (V.mv rfl) ?_; refine RU.rd (V.eql rfl rfl) ?_; refine RU.rd (V.mv rfl) ?_
      refine RU.splitD (fun h7 => ?_) (fun _ => by contradiction); refine RU.rdG rfl rfl (V.mv rfl) ?_; refine RU.rdG rfl rfl (V.len u27 rfl) ?_; refine RU.rdG rfl rfl (V.mv rfl) ?_; refine RU.rdG rfl rfl (V.len u49 rfl) ?_
      refine RU.rdG rfl rfl (V.eql rfl rfl) ?_; refine RU.rd (V.pickT rfl rfl) ?_; refine RU.rd (V.mv rfl) ?_; refine RU.splitD (fun h8 => ?_) (fun _ => by contradiction); refine RU.rdG rfl rfl (V.mv rfl) ?_
      refine RU.rdG rfl rfl (V.nck rfl) ?_; refine RU.rdG rfl rfl (V.fld0 f38_0 rfl) ?_; refine RU.rdG rfl rfl (V.ld s31 rfl (cur hp) rfl) ?_; refine RU.loG rfl rfl (L.call fn13 rfl (c13 hL) ?_); rintro _ w7 ⟨rfl, gr7⟩
      have hC7 := hC5.trans (Ch.of_grow gr7); have hp := hp.gr gr7; refine RU.rdG rfl rfl (V.mv rfl) ?_; refine RU.rdG rfl rfl (V.add rfl rfl (by omega)) ?_; refine RU.rdG rfl rfl (V.eql rfl rfl) ?_
      refine RU.rd (V.pickT rfl rfl) ?_; refine RU.rd (V.mv rfl) ?_; refine RU.splitD (fun h9 => ?_) (fun _ => by omega); refine RU.loG rfl rfl (L.call fn12 rfl (c12) ?_); rintro _ w8 ⟨rfl, gr8⟩
      have hC8 := hC7.trans (Ch.of_grow gr8); have hp := hp.gr gr8; refine RU.rd (V.pickT rfl rfl) ?_; refine RU.rd (V.as rfl) ?_; refine RU.nil ?_; refine RX.rt Tryz.func5 (by rfl) (ResOk.tmp rfl (ResOk.nil)) ?_
      exact ⟨rfl, by assumption⟩
end Go.Proofs.YtmcfbinkofoagaaGreat
