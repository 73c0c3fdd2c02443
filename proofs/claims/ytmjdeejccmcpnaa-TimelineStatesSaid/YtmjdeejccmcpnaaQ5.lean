/- What timeline.part returns, as a plain Lean function, and that the Go code returns it. (Printed by a program of this session: the kit's print in a patched scratch copy.) -/
import Derived.Test.YtmjdeejccmcpnaaQ0
namespace Go.Proofs.Ytmjdeejccmcpnaa.Q
open Go.RowKit Go.Proofs.YtmjdeejccmcpnaaW.PrintWords Go.Proofs.YtmjdeejccmcpnaaW.PrintLast Go.Proofs.YtmjdeejccmcpnaaW.PrintMore
attribute [local go_sem] max2_int min2_int max_two min_two max_three min_three max_four min_four   -- for this text's walks alone
set_option linter.unusedVariables false
set_option linter.unusedSimpArgs false

/-! ### timeline_part: function 17 -/
def timeline_part.f (a0 : Int) (a1 : Int) : Option (Int) := some (wrap64 (Int.tdiv (wrap64 (a0 * a1)) 1000))
set_option maxHeartbeats 8000000 in
set_option maxRecDepth 100000 in
theorem timeline_part.calls (a0 : Int) (a1 : Int) (r : Int) (w : World) (h : timeline_part.f a0 a1 = some r) :
    Calls Try.prog 17 #[.int .i64 a0, .int .i64 a1] w fun e w' => e = .returned (.int .i64 r) ∧ Drawn0 w w' := by
  have H : (some (wrap64 (Int.tdiv (wrap64 (a0 * a1)) 1000))) = some r := h
  clear h
  obtain rfl := Option.some.inj H
  go_enter Try.func17, Try.ntmps17
  go_wp2
  go_ret
  exact ⟨by first | rfl | (simp; done) | (simp [*]; done), by repeat (first | exact Drawn0.refl _ | apply Drawn0.step)⟩

end Go.Proofs.Ytmjdeejccmcpnaa.Q
