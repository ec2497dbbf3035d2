/- Parts: Un. -/
import Derived.Test.YtbdjcmhfcdamiaaDoorQ8
/- A mark of its own for a place. -/
namespace Go.Proofs.YtbdjcmhfcdamiaaDoor
open Go.RowKit
theorem num_call (a b : Int) {w : World} (ha : 0 ≤ a) (ha2 : a ≤ 1000) (hb : 0 ≤ b) (hb2 : b ≤ 8589934592) :
    Calls Tryd.prog 65 #[.int .i64 a, .int .i64 b] w fun e w' => e = .returned (.int .i64 (1048576 * a + b + 1)) ∧ w = w' := by
  go_enter Tryd.func65, Tryd.ntmps65
  go_wp2_with fail
  go_ret
  exact ⟨rfl, rfl⟩
end Go.Proofs.YtbdjcmhfcdamiaaDoor
