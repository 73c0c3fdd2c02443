/- The probe 'timed': State of one effect, as the model runs it. -/
import Derived.Test.YtmjdeejccmcpnaaS3
import Derived.Test.YtmjdeejccmcpnaaWEqStruct
namespace Go.Proofs.Ytmjdeejccmcpnaa.Q
open Go.RowKit Go.Proofs.YtmjdeejccmcpnaaW.PrintWords Go.Proofs.YtmjdeejccmcpnaaW.PrintLast Go.Proofs.YtmjdeejccmcpnaaW.PrintMore
set_option linter.unusedVariables false
set_option linter.unusedSimpArgs false
theorem eqA33 (d : Nat) (w : World) (x0 y0 : Int) (x1 y1 : Int) (x2 y2 : Int) (x3 y3 : Int) :
    (Op.equalIn (d + 2) 33 (.agg #[.int .i64 x0, .int .i64 x1, .int .i64 x2, .int .i64 x3]) (.agg #[.int .i64 y0, .int .i64 y1, .int .i64 y2, .int .i64 y3])).run Try.prog w = .ok (x0 == y0 && (x1 == y1 && (x2 == y2 && (x3 == y3)))) w := by
  refine eqA_of Try.underlying33 (by kernel_rfl) ?_
  refine eqf_cons (by rfl) (by go_simp; rfl) (by go_simp; rfl) (by go_simp) ?_
  refine eqf_cons (by rfl) (by go_simp; rfl) (by go_simp; rfl) (by go_simp) ?_
  refine eqf_cons (by rfl) (by go_simp; rfl) (by go_simp; rfl) (by go_simp) ?_
  exact eqf_last (by rfl) (by go_simp; rfl) (by go_simp; rfl) (by go_simp)
attribute [local go_sem high] eqA33
def tl : List S37 := [⟨4, 0, 0, 0, 200, 0, 0⟩]
theorem progress_probe : timeline_progress.f 5 1 0 200 1 50 = some 250 := by kernel_rfl
theorem check_probe : timeline_Check.f 9 tl = some 0 := by kernel_rfl
theorem times_probe : timeline_times.f 9 tl = some [⟨1, 0, 200⟩] := by kernel_rfl
theorem st_probe : (stTo tl (fun _ => 250) tl.length).1 = [⟨4, 250, 0, 0⟩] := by kernel_rfl
set_option maxHeartbeats 4000000 in
set_option maxRecDepth 100000 in
theorem timed_ok (w : World) : Calls Try.prog 4 #[] w fun e w' => e = .returned (.bool true) ∧ Below w.heap.size w w' := by
  have hst := fun (g : Nat) (W : World) (hC : Kd.C k37 W (some ⟨g, 0, none⟩) tl.length tl) => state_ok (some ⟨g, 0, none⟩) 1 tl 1 50 W hC (Nat.le_refl _) (by decide) 9 9 5 check_probe [⟨1, 0, 200⟩] times_probe rfl (fun _ => 250) (by
      intro k hk
      obtain rfl : k = 0 := by have : tl.length = 1 := rfl; omega
      exact progress_probe) (by rw [st_probe]; simp) (by omega) (by omega) (by omega) (by omega)
  have HST := Aside0.mk hst
  clear hst
  go_enter Try.func4, Try.ntmps4
  go_wp2_with fail
  refine (HST.out w.heap.size (w.alloc (.cells #[.int .i64 4, .int .i64 0, .int .i64 0, .int .i64 0, .int .i64 200, .int .i64 0, .int .i64 0] 37)) ?_).mono ?_
  · refine ⟨rfl, by decide, fun _ => ⟨_, rfl, fun j p hj => ?_⟩⟩
    obtain ⟨hj1, hj2⟩ := List.getElem?_eq_some_iff.1 hj
    obtain rfl : j = 0 := by have : tl.length = 1 := rfl; omega
    obtain rfl := hj2
    refine ⟨[.int .i64 4, .int .i64 0, .int .i64 0, .int .i64 0, .int .i64 200, .int .i64 0, .int .i64 0], rfl, k37_mk _ _, fun i u hu => ?_⟩
    show World.cell? _ ((⟨w.heap.size, 0, none⟩ : Addr).add (0 * 7 + i)) = _
    rw [add_at, blk_cell (blk_new _ _)]
    simpa using hu
  rintro e w2 ⟨A, c, s, rfl, hperm, _, hsc, hC, hB⟩
  rw [st_probe] at hperm
  have hs : s = [⟨4, 250, 0, 0⟩] := List.perm_singleton.1 hperm
  subst hs
  obtain ⟨ad, rfl, c0, c1, c2, c3⟩ := at_T33 hC 0 (by simp)
  rw [show ad.add (0 * 4) = ad by simp [Addr.add]] at c0 c1 c2 c3
  simp only [List.getD_cons_zero] at c0 c1 c2 c3
  have HB := Aside0.mk (((Below.refl _ w).alloc (Nat.le_refl _) _).trans (hB.mono (by simp)))
  clear hC hB hperm hsc HST
  go_wp2
  go_ret
  exact ⟨rfl, HB.out⟩
end Go.Proofs.Ytmjdeejccmcpnaa.Q
