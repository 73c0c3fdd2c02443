/- State where it answers an error; the law's own walk, over what is left in plain words. -/
import Derived.Test.YtmjdeejccmcpnaaT0
import Derived.Test.YtmjdeejccmcpnaaB0
import Derived.Test.YtmjdeejccmcpnaaQ28
import Derived.Test.YtmjdeejccmcpnaaQ30
namespace Go.Proofs.Ytmjdeejccmcpnaa.Q
open Go.RowKit Go.Proofs.YtmjdeejccmcpnaaW.PrintWords Go.Proofs.YtmjdeejccmcpnaaW.PrintLast Go.Proofs.YtmjdeejccmcpnaaW.PrintMore
set_option linter.unusedVariables false
set_option linter.unusedSimpArgs false
theorem state_err (A0 : Option Addr) (c0 : Nat) (l : List S37) (click at_ : Int) (w : World) (hr0 : Kd.C k37 w A0 l.length l) (hc0 : l.length ≤ c0)
    (kC : Nat) (r : Int) (hC : timeline_Check.f kC l = some r) (hr : r ≠ 0) :
    Calls Try.prog 5 #[.slice A0 l.length c0, .int .i64 click, .int .i64 at_] w fun e w' => e = .returned (.tuple #[.slice none 0 0, .int .i64 r]) ∧ Below w.heap.size w w' := by
  have HR0 := Aside0.mk hr0
  have HC0 := Aside0.mk hc0
  have HCk := Aside0.mk hC
  have hb : (r != 0) = true := bne_iff_ne.2 hr
  clear hr0 hc0 hC hr
  go_enter Try.func5, Try.ntmps5
  go_wp2_with (go_at_call 12; refine (timeline_Check.calls kC A0 c0 l r _ HR0.out HC0.out HCk.out).mono ?_; rintro e w1 ⟨rfl, hb1⟩; have HB1 := Aside0.mk hb1; clear hb1)
  go_ret2
  exact ⟨rfl, HB1.out⟩
theorem state_rng (A0 : Option Addr) (c0 : Nat) (l : List S37) (click at_ : Int) (w : World) (hr0 : Kd.C k37 w A0 l.length l) (hc0 : l.length ≤ c0)
    (kC : Nat) (hC : timeline_Check.f kC l = some 0) (hr : ¬ (0 ≤ click ∧ click ≤ 200 ∧ 0 ≤ at_ ∧ at_ ≤ 10000000)) :
    Calls Try.prog 5 #[.slice A0 l.length c0, .int .i64 click, .int .i64 at_] w fun e w' => e = .returned (.tuple #[.slice none 0 0, .int .i64 2]) ∧ Below w.heap.size w w' := by
  have HR0 := Aside0.mk hr0
  have HC0 := Aside0.mk hc0
  have HCk := Aside0.mk hC
  clear hr0 hc0 hC
  by_cases h1 : click < 0
  · have b1 : decide (click < 0) = true := decide_eq_true h1
    clear h1 hr
    go_enter Try.func5, Try.ntmps5
    go_wp2_with (go_at_call 12; refine (timeline_Check.calls kC A0 c0 l 0 _ HR0.out HC0.out HCk.out).mono ?_; rintro e w1 ⟨rfl, hb1⟩; have HB1 := Aside0.mk hb1; clear hb1)
    go_ret2
    exact ⟨rfl, HB1.out⟩
  · have b1 : decide (click < 0) = false := decide_eq_false h1
    by_cases h2 : 200 < click
    · have b2 : decide (200 < click) = true := decide_eq_true h2
      clear h1 h2 hr
      go_enter Try.func5, Try.ntmps5
      go_wp2_with (go_at_call 12; refine (timeline_Check.calls kC A0 c0 l 0 _ HR0.out HC0.out HCk.out).mono ?_; rintro e w1 ⟨rfl, hb1⟩; have HB1 := Aside0.mk hb1; clear hb1)
      go_ret2
      exact ⟨rfl, HB1.out⟩
    · have b2 : decide (200 < click) = false := decide_eq_false h2
      by_cases h3 : at_ < 0
      · have b3 : decide (at_ < 0) = true := decide_eq_true h3
        clear h1 h2 h3 hr
        go_enter Try.func5, Try.ntmps5
        go_wp2_with (go_at_call 12; refine (timeline_Check.calls kC A0 c0 l 0 _ HR0.out HC0.out HCk.out).mono ?_; rintro e w1 ⟨rfl, hb1⟩; have HB1 := Aside0.mk hb1; clear hb1)
        go_ret2
        exact ⟨rfl, HB1.out⟩
      · have b3 : decide (at_ < 0) = false := decide_eq_false h3
        have b4 : decide (10000000 < at_) = true := decide_eq_true (by omega)
        clear h1 h2 h3 hr
        go_enter Try.func5, Try.ntmps5
        go_wp2_with (go_at_call 12; refine (timeline_Check.calls kC A0 c0 l 0 _ HR0.out HC0.out HCk.out).mono ?_; rintro e w1 ⟨rfl, hb1⟩; have HB1 := Aside0.mk hb1; clear hb1)
        go_ret2
        exact ⟨rfl, HB1.out⟩
end Go.Proofs.Ytmjdeejccmcpnaa.Q
