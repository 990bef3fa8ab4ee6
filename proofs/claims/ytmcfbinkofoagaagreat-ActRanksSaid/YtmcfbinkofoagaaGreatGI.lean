/- The cells of a grid of numbers, handed out one behind the other. -/
import Derived.Test.YtmcfbinkofoagaaGreatM
namespace Go.Proofs.YtmcfbinkofoagaaGreat
open Go Go.RowKit Sx Go.Proofs

def encI (v : Int) : List Value := [.int .i64 v]

theorem c117 {g : Value} {w : World} : Calls Tryz.prog 117 #[g] w (Ret fun v w' => ∃ b, w.heap.size ≤ b ∧ Grow w w' ∧ Blk w' b (cellsL g) 102 ∧ v = .func (.func 118) #[] #[.pointer (some ⟨b, 0, none⟩)]) := by
  refine calls_of_rx (args := [_]) (e := [(0, _)]) (n := 4) Tryz.func117 rfl rfl rfl (by kernel_rfl) rfl ?_
  have hC := Ch.refl Nil w
  refine RX.seq ?_; refine RX.region ?_; refine RU.lo (L.bx hC rfl fun b1 w1 hb1 le1 hC1 gr1 hz1 hB1 => ?_); refine RU.rd (V.as rfl) ?_; refine RU.nil ?_; refine RX.seq ?_; refine RX.region ?_; refine RU.rd (V.fn rfl) ?_
  refine RU.rd (V.as rfl) ?_; refine RU.nil ?_; refine RX.rt Tryz.func117 (by rfl) (ResOk.tmp rfl (ResOk.nil)) ?_
  exact ⟨b1, le1, hC1, hB1, rfl⟩

/-- All cells. -/
theorem it118 {w : World} {bx gb : Nat} {p : Option Addr} {n c : Nat} {G : List ((Int × Int) × Int)} (hx : Blk w bx [.pointer (some ⟨gb, 0, none⟩)] 102) (hg : Grd w gb (.slice p n c) 3 (gcs encI G) 155 G.length) (hG : G.length ≤ 1000000) :
    IterOk Tryz.prog 118 [.pointer (some ⟨bx, 0, none⟩)] (G.map fun x => [.agg #[.int .i64 x.1.1, .int .i64 x.1.2], .int .i64 x.2]) (inSl (.slice p n c)) w := by
  intro y J Jx hcy sJ sJx hy h0
  obtain ⟨hsb, hrd, -⟩ := hg
  have hn := hrd.len
  subst hn
  refine calls_of_rx (args := [_, _]) (e := [(0, _), (1, _)]) (n := 24) Tryz.func118 rfl rfl rfl (by kernel_rfl) rfl ?_
  have hC := Ch.refl Nil w
  refine RX.seq ?_; refine RX.seq ?_; refine RX.region ?_; refine RU.rd (V.ld s102 rfl (cur hx) rfl) ?_; refine RU.rd (V.eqNil u102 rfl rfl) ?_; refine RU.nil ?_; refine RX.condF rfl ?_; refine RX.skip ?_; refine RX.seq ?_
  refine RX.region ?_; refine RU.rd (V.ld s102 rfl (cur hx) rfl) ?_; refine RU.rd (V.nck rfl) ?_; refine RU.rd (V.fld0 f155_0 rfl) ?_; refine RU.rd (V.ld s153 rfl (cur hsb) rfl) ?_; refine RU.rd (V.len u153 rfl) ?_
  refine RU.rd (V.mv rfl) ?_; refine RU.nil ?_; refine RX.block ?_
  refine RX.keep [(0, _), (10, _), (11, _), (12, _)] ⟨rfl, rfl, rfl, rfl, trivial⟩ ?_
  refine RX.loop (fun d e w' => ∃ i : Nat, d = G.length - i ∧ i ≤ G.length ∧ e = [(0, y), (10, .slice p G.length c), (11, .int .i64 G.length), (12, .int .i64 i)] ∧ J i w' ∧ Rd w' 3 (.slice p G.length c) G.length (gcs encI G)) (G.length - 0) ⟨0, rfl, Nat.zero_le _, rfl, h0, hrd⟩ ?_
  rintro d e w' ⟨i, rfl, hi, rfl, hJ, hrd'⟩ ih
  have hC := Ch.refl Nil w'
  refine RX.seq ?_; refine RX.region ?_; refine RU.rd (V.lss rfl rfl) ?_; refine RU.nil ?_; refine RX.seq ?_; refine RX.condD rfl (fun h1 => ?_) fun h1 => ?_
  · have hi' : i < G.length := by omega
    obtain ⟨b, off, cs, T, rfl, -, hb, htk, hln⟩ := hrd'.el hi'
    have hat := gcs_at (enc := encI) (s := 1) (fun _ => rfl) G i hi'
    refine RX.skip ?_; refine RX.seq ?_; refine RX.block ?_; refine RX.seq ?_; refine RX.region ?_; refine RU.rd (V.idx e153 rfl rfl (by omega)) ?_
    refine RU.rd (V.ldA a197 rfl (cur hb) (vs := [.int .i64 G[i].1.1, .int .i64 G[i].1.2, .int .i64 G[i].2]) rfl (htk.trans hat)) ?_
    refine RU.lo (L.al hC z197 fun b1 w1 hb1 le1 hC1 gr1 hz1 hB1 => ?_); refine RU.lo0 (L.stN hC1 sz197 rfl rfl rfl rfl hB1 rfl le1 fun w2 hC2 ch2 hz2 hB1 => ?_); refine RU.nil ?_; refine RX.seq ?_; refine RX.region ?_
    refine RU.rd (V.mv rfl) ?_; refine RU.rd (V.fld0 f197_0 rfl) ?_; refine RU.rd (V.ldA a145 rfl (cur hB1) (vs := [_, _]) rfl rfl) ?_; refine RU.rd (V.fld0 f197_1 rfl) ?_; refine RU.rd (V.ld s3 rfl (cur hB1) rfl) ?_
    have hJ2 := sJ i w' w2 hJ (.of_grow hC2)
    refine RU.lo (L.callY rfl rfl (hy i w2 _ (by simp [hi']) hJ2) ?_)
    rintro v w3 ⟨hkp, ⟨rfl, hJ3⟩ | ⟨rfl, hJ3⟩⟩
    · have hC := Ch.refl Nil w3
      refine RU.rd (V.not rfl) ?_; refine RU.nil ?_; refine RX.condF rfl ?_; refine RX.skip ?_; refine RX.inBlock ?_; refine RX.region ?_; refine RU.rd (V.add rfl rfl (by omega)) ?_; refine RU.rd (V.mv rfl) ?_; refine RU.nil ?_
      refine RX.keep [(0, _), (10, _), (11, _), (12, _)] ⟨rfl, rfl, rfl, rfl, trivial⟩ ?_
      exact ih (G.length - (i + 1)) (by omega) _ _ ⟨i + 1, rfl, hi', rfl, hJ3, (hrd'.gr hC2).kp hkp fun _ h => h⟩
    · have hC := Ch.refl Nil w3
      refine RU.rd (V.not rfl) ?_; refine RU.nil ?_; refine RX.condT rfl ?_; refine RX.rt Tryz.func118 (by rfl) (ResOk.nil) ?_
      exact ⟨rfl, .inr hJ3⟩
  · have : i = G.length := by omega
    subst this
    refine RX.exit rfl ?_; refine RX.rtEnd Tryz.func118 (by rfl) (ResOk.nil) ?_
    exact ⟨rfl, .inl (by simpa using hJ)⟩
end Go.Proofs.YtmcfbinkofoagaaGreat
