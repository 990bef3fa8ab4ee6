/- Contracts of the small functions that only reckon. -/
import Derived.Test.YtmcfbinkofoagaaGreatF
namespace Go.Proofs.YtmcfbinkofoagaaGreat
open Go Go.RowKit Sx Go.Proofs
theorem c76 {n a b : Int} {w : World} : Calls Tryz.prog 76 #[.int .i64 n, .int .i64 a, .int .i64 b] w (Ret fun v w' => v = .bool (decide (a ≤ n ∧ n ≤ b)) ∧ w' = w) := by
  refine calls_of_rx (args := [_, _, _]) (e := [(0, _), (1, _), (2, _)]) (n := 15) Tryz.func76 rfl rfl rfl (by kernel_rfl) rfl ?_
  have hC := Ch.refl Nil w
  refine RX.seq ?_; refine RX.region ?_; refine RU.rd (V.as rfl) ?_; refine RU.nil ?_; refine RX.seq ?_; refine RX.region ?_; refine RU.rd (V.mv rfl) ?_; refine RU.rd (V.mv rfl) ?_; refine RU.rd (V.geq rfl rfl) ?_
  refine RU.rd (V.mv rfl) ?_; refine RU.splitD (fun h1 => ?_) fun h1 => ?_
  · refine RU.rdG rfl rfl (V.mv rfl) ?_; refine RU.rdG rfl rfl (V.mv rfl) ?_; refine RU.rdG rfl rfl (V.leq rfl rfl) ?_; refine RU.rd (V.pickT rfl rfl) ?_; refine RU.rd (V.as rfl) ?_; refine RU.nil ?_
    refine RX.rt Tryz.func76 (by rfl) (ResOk.tmp rfl (ResOk.nil)) ?_; simp [tup, *]
  · refine RU.sk rfl rfl rfl ?_; refine RU.sk rfl rfl rfl ?_; refine RU.sk rfl rfl rfl ?_; refine RU.rd (V.pickF rfl rfl) ?_; refine RU.rd (V.as rfl) ?_; refine RU.nil ?_
    refine RX.rt Tryz.func76 (by rfl) (ResOk.tmp rfl (ResOk.nil)) ?_; simp [tup, *]
theorem c78 {n : Int} {w : World} : Calls Tryz.prog 78 #[.int .i64 n] w (Ret fun v w' => v = .bool (decide (0 ≤ n ∧ n ≤ 3)) ∧ w' = w) := by
  refine calls_of_rx (args := [_]) (e := [(0, _)]) (n := 5) Tryz.func78 rfl rfl rfl (by kernel_rfl) rfl ?_
  have hC := Ch.refl Nil w
  refine RX.seq ?_; refine RX.region ?_; refine RU.rd (V.as rfl) ?_; refine RU.nil ?_; refine RX.seq ?_; refine RX.region ?_; refine RU.rd (V.mv rfl) ?_; refine RU.lo (L.call fn76 rfl (c76) ?_); rintro _ w1 ⟨rfl, hq1⟩
  rw [hq1]; clear hq1 w1; refine RU.rd (V.as rfl) ?_; refine RU.nil ?_; refine RX.rt Tryz.func78 (by rfl) (ResOk.tmp rfl (ResOk.nil)) ?_; exact ⟨rfl, rfl⟩
end Go.Proofs.YtmcfbinkofoagaaGreat
