/- The cells of a grid of numbers one of whose numbers is so, handed out one behind the other. -/
import Derived.Test.YtmcfbinkofoagaaGreatGI
namespace Go.Proofs.YtmcfbinkofoagaaGreat
open Go Go.RowKit Sx Go.Proofs

/-- The cells of a row. -/
def rowOf {V : Type} (a : Int) (G : List ((Int × Int) × V)) : List (Int × V) := (G.filter fun x => x.1.1 = a).map fun x => (x.1.2, x.2)
def rowN {V : Type} (a : Int) (G : List ((Int × Int) × V)) (i : Nat) : Nat := (rowOf a (G.take i)).length
theorem rowN_yes {V : Type} {a : Int} {G : List ((Int × Int) × V)} {i : Nat} (hi : i < G.length) (h : G[i].1.1 = a) : rowN a G (i + 1) = rowN a G i + 1 ∧ (rowOf a G)[rowN a G i]? = some (G[i].1.2, G[i].2) := by
  unfold rowN rowOf
  constructor
  · rw [List.take_succ_eq_append_getElem hi, List.filter_append]; simp [h]
  · have h1 : G = G.take i ++ (G[i] :: G.drop (i + 1)) := by rw [List.getElem_cons_drop]; exact (List.take_append_drop _ _).symm
    have h2 : (List.filter (fun x => decide (x.1.1 = a)) G) = List.filter (fun x => decide (x.1.1 = a)) (G.take i) ++ (G[i] :: List.filter (fun x => decide (x.1.1 = a)) (G.drop (i + 1))) := by
      conv => lhs; rw [h1]
      rw [List.filter_append, List.filter_cons]; simp [h]
    rw [h2, List.map_append, List.getElem?_append_right (by simp)]
    simp
theorem rowN_no {V : Type} {a : Int} {G : List ((Int × Int) × V)} {i : Nat} (hi : i < G.length) (h : ¬ G[i].1.1 = a) : rowN a G (i + 1) = rowN a G i := by
  unfold rowN rowOf
  rw [List.take_succ_eq_append_getElem hi, List.filter_append]; simp [h]
theorem rowN_all {V : Type} {a : Int} {G : List ((Int × Int) × V)} : rowN a G G.length = (rowOf a G).length := by simp [rowN]

/-- The cells of a row. -/
theorem it116 {w : World} {b1 b2 b3 gb : Nat} {p : Option Addr} {n c : Nat} {a : Int} {G : List ((Int × Int) × Int)} (h1 : Blk w b1 [.pointer (some ⟨gb, 0, none⟩)] 102) (h2 : Blk w b2 [.int .i64 0] 3) (h3 : Blk w b3 [.int .i64 a] 3)
    (hg : Grd w gb (.slice p n c) 3 (gcs encI G) 155 G.length) (hG : G.length ≤ 1000000) :
    IterOk Tryz.prog 116 [.pointer (some ⟨b1, 0, none⟩), .pointer (some ⟨b2, 0, none⟩), .pointer (some ⟨b3, 0, none⟩)] ((rowOf a G).map fun x => [.int .i64 x.1, .int .i64 x.2]) (fun b => inSl (.slice p n c) b ∨ b = b2 ∨ b = b3) w := by
  intro y J Jx hcy sJ sJx hy h0
  refine calls_of_rx (args := [_, _, _, _]) (e := [(0, _), (1, _), (2, _), (3, _)]) (n := 26) Tryz.func116 rfl rfl rfl (by kernel_rfl) rfl ?_
  have hC := Ch.refl Nil w
  refine RX.seq ?_; refine RX.region ?_; refine RU.lo (L.bx hC rfl fun b4 w4 hb4 le4 hC4 gr4 hz4 hB4 => ?_); refine RU.nil ?_; refine RX.seq ?_; refine RX.region ?_; refine RU.rd (V.ld s102 rfl (cur (h1.gr gr4)) rfl) ?_
  refine RU.lo (L.call fn117 rfl c117 ?_)
  rintro _ w5 ⟨b5, le5, gr5, hB5, rfl⟩
  have hC5 := hC4.trans (.of_grow gr5)
  have hB4 := hB4.gr gr5
  refine RU.nil ?_; refine RX.block ?_
  have hl := hg.rd.lt
  have hl2 := h2.lt
  have hl3 := h3.lt
  have hz := hC5.size
  rw [hcy] at hB4
  have hB4' := hB4.lt
  refine RX.rangeF (B := inSl (.slice p n c)) (fun i w' => J (rowN a G i) w' ∧ Blk w' b4 [y] 191 ∧ Blk w' b2 [.int .i64 0] 3 ∧ Blk w' b3 [.int .i64 a] 3) (fun cd w' => cd = .ret ∧ Jx w') rfl fn118 (fun w1' gr1 _ => it118 (hB5.gr gr1) ((hg.gr hC5).gr gr1) hG) (by simp; rintro it x _ _ _ rfl; rfl) ?_ ?_ ?_ ?_ ?_ ?_ ?_
  · intro b hb hs; have := hl b hs; omega
  · rintro i w1' w2' ⟨hj, h4', h2', h3'⟩ hc; exact ⟨sJ _ _ _ hj (hc.mono hz), h4'.cel hc, h2'.cel hc, h3'.cel hc⟩
  · rintro cd w1' w2' ⟨rfl, hj⟩ hc; exact ⟨rfl, sJx _ _ hj (hc.mono hz)⟩
  · exact ⟨sJ _ _ _ (by simpa [rowN, rowOf] using h0) (.of_grow hC5), hB4, h2.gr hC5, h3.gr hC5⟩
  · rintro l i it w1' r hit ⟨hj, h4', h2', h3'⟩ hlo hle hlt hnB
    obtain ⟨hi, rfl⟩ : ∃ hi : i < G.length, [.agg #[.int .i64 G[i].1.1, .int .i64 G[i].1.2], .int .i64 G[i].2] = it := by
      rw [List.getElem?_eq_some_iff] at hit
      obtain ⟨hi, rfl⟩ := hit
      exact ⟨by simpa using hi, by simp⟩
    dsimp only [paramEnv]
    have hC := Ch.refl Nil w1'
    refine RX.seq ?_; refine RX.region ?_; refine RU.lo (L.al hC z145 fun b6 w6 hb6 le6 hC6 gr6 hz6 hB6 => ?_); refine RU.lo0 (L.stN hC6 sz145 rfl rfl rfl rfl hB6 rfl le6 fun w1 hC1 ch1 hz1 hB6 => ?_); refine RU.nil ?_
    refine RX.region ?_; refine RU.rd (V.as rfl) ?_; refine RU.nil ?_
    refine RX.beginRound hC1 (hlo.ch hC1 id) hnB hle fun wb hcl hzb hlb => ?_
    have hj := sJ _ _ _ hj ((Cel.of_grow hC1).trans (hcl.mono hz))
    have h2' := (h2'.gr hC1).cel hcl
    have h3' := (h3'.gr hC1).cel hcl
    have h4' := (h4'.gr hC1).cel hcl
    have hB6 := hB6.cel hcl
    have hC := Ch.refl Nil wb
    refine RX.block ?_; refine RX.seq ?_
    refine RX.draw (Ch Nil wb) [0, 2, 3, 6, 7, 10] [(0, true), (1, true), (2, true), (3, true), (4, true), (5, true), (6, true), (7, true), (8, true), (9, true), (10, true), (11, true), (12, false), (13, true), (14, true)] mixed (by kernel_rfl) fun w2 gr2 hz2 => ?_
    have hC2 := hC.trans (Ch.of_grow gr2); refine RD.rd rfl rfl hC2 (V.ld s3 rfl (fun _ hS => h2'.gr hS) rfl) ?_; refine RD.rz rfl (V.idxA ar145 rfl rfl (by omega)) ?_
    refine RD.rd rfl rfl hC2 (V.ld s3 rfl (fun _ hS => hB6.gr hS) rfl) ?_; refine RD.rd rfl rfl hC2 (V.ld s3 rfl (fun _ hS => h3'.gr hS) rfl) ?_; refine RD.rz rfl (V.eql rfl rfl) ?_; refine RD.rz rfl (V.mv rfl) ?_
    refine RD.splitD (fun h4 => ?_) fun h4 => ?_
    · obtain ⟨hr1, hr2⟩ := rowN_yes hi h4
      refine RD.rdG rfl rfl rfl rfl hC2 (V.ld s191 rfl (fun _ hS => h4'.gr hS) rfl) ?_; refine RD.rdG rfl rfl rfl rfl hC2 (V.ld s3 rfl (fun _ hS => h2'.gr hS) rfl) ?_; refine RD.rzG rfl rfl rfl (V.sub rfl rfl (by omega)) ?_
      refine RD.rzG rfl rfl rfl (V.idxA ar145 rfl rfl (by omega)) ?_; refine RD.rdG rfl rfl rfl rfl hC2 (V.ld s3 rfl (fun _ hS => hB6.gr hS) rfl) ?_; refine RD.rzG rfl rfl rfl (V.mv rfl) ?_
      refine RD.lfG rfl rfl rfl (by kernel_rfl) (L.callY rfl rfl (hy _ _ _ (by rw [List.getElem?_map, hr2]; rfl) (sJ _ _ _ hj (.of_grow hC2))) ?_)
      rintro v w3 ⟨hkp, hv⟩
      have hk : Kp Tryz.prog (inSl (.slice p n c)) w5.heap.size wb w3 := (Kp.of_grow hC2).trans (hkp.mono (fun b hb => .inl hb) hz)
      have h5 := (h4'.gr hC2).kpF hkp le4 (by kernel_rfl)
      have h2 := (h2'.gr hC2).kp hkp (.inr (.inl rfl))
      have h3 := (h3'.gr hC2).kp hkp (.inr (.inr rfl))
      rcases hv with ⟨rfl, hJ3⟩ | ⟨rfl, hJ3⟩
      · refine RD.rzG rfl rfl rfl (V.not rfl) ?_; refine RD.rz rfl (V.pickT rfl rfl) ?_; refine RD.nil ?_; refine RX.condF rfl ?_; refine RX.skip ?_; refine RX.inBlock ?_
        exact RX.rdT hlb hk hnB hle ⟨by rw [hr1]; exact hJ3, h5, h2, h3⟩
      · refine RD.rzG rfl rfl rfl (V.not rfl) ?_; refine RD.rz rfl (V.pickT rfl rfl) ?_; refine RD.nil ?_; refine RX.condT rfl ?_
        exact RX.rdRet hlb hk hnB hle ⟨rfl, hJ3⟩
    · refine RD.sk rfl rfl rfl rfl rfl hC2 rfl ?_; refine RD.sk rfl rfl rfl rfl rfl hC2 rfl ?_; refine RD.skz rfl rfl rfl rfl rfl ?_; refine RD.skz rfl rfl rfl rfl rfl ?_; refine RD.sk rfl rfl rfl rfl rfl hC2 rfl ?_
      refine RD.skz rfl rfl rfl rfl rfl ?_; refine RD.skL rfl rfl rfl rfl hC2 ?_; refine RD.skz rfl rfl rfl rfl rfl ?_; refine RD.rz rfl (V.pickF rfl rfl) ?_; refine RD.nil ?_; refine RX.condF rfl ?_; refine RX.skip ?_
      refine RX.inBlock ?_
      exact RX.rdT hlb (.of_grow hC2) hnB hle ⟨by rw [rowN_no hi h4]; exact sJ _ _ _ hj (.of_grow hC2), h4'.gr hC2, h2'.gr hC2, h3'.gr hC2⟩
  · rintro w1' ⟨hj, -⟩ hdf
    have hC := Ch.refl Nil w1'
    refine RX.inBlock ?_
    refine RX.rtDEnd Tryz.func116 (by rfl) (by simpa using hdf) (by simp) fun w2' _ hc2 _ => ⟨.nil, rfl, .inl ?_⟩
    rw [List.length_map] at hj ⊢
    rw [rowN_all] at hj
    exact sJ _ _ _ hj (hc2 _ (by simpa using hz))
  · rintro cd w1' - ⟨rfl, hj⟩ hdf
    have hC := Ch.refl Nil w1'
    skip
    refine RX.rtD Tryz.func116 (by rfl) (by simpa using hdf) (by simp) fun w2' _ hc2 _ => ⟨.nil, rfl, .inr (sJx _ _ hj (hc2 _ (by simpa using hz)))⟩
end Go.Proofs.YtmcfbinkofoagaaGreat
