/- The reference's RunPath. (Round B) -/
import Derived.Test.YtmfhfebakdkkdaaGreatZImpB
import Derived.Test.YtmfhfebakdkkdaaGreatSpecM
namespace Go.Proofs.YtmfhfebakdkkdaaGreat
open Go.ChangeShapes Go.WideShapes Go.ChangeAt Go.RowKit
theorem ownV_nil (w : World) (B N : Nat) (T : TypeId) (hB : B ≤ w.heap.size) (hN : w.heap.size = N) : Own (w.alloc (.cells #[] T)) B T 2 encV2 (.slice (some ⟨N, 0, none⟩) 0 0) [] :=
  hN ▸ World.ownsRow_lit (base := B) (size := 2) w #[] 0 hB (by decide) rfl
theorem stAt (w : World) (s : St) : (Instr.field 75 (.agg #[.int .i64 s.t, .int .i64 s.p.x, .int .i64 s.p.y, .int .i64 s.f.x, .int .i64 s.f.y, .int .i64 s.d, .int .i64 s.g, .bool s.dn, .bool s.ov]) 1).run Tryz.prog w = .ok (.agg #[.int .i64 s.p.x, .int .i64 s.p.y]) w := by kernel_rfl
end Go.Proofs.YtmfhfebakdkkdaaGreat
