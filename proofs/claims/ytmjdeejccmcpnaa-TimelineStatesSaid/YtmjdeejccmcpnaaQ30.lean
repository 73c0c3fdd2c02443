/- What chancerylaw3.stateOf returns, as a plain Lean function, and that the Go code returns it. (Printed by a program of this session: the kit's print in a patched scratch copy.) -/
import Derived.Test.YtmjdeejccmcpnaaQ0
namespace Go.Proofs.Ytmjdeejccmcpnaa.Q
open Go.RowKit Go.Proofs.YtmjdeejccmcpnaaW.PrintWords Go.Proofs.YtmjdeejccmcpnaaW.PrintLast Go.Proofs.YtmjdeejccmcpnaaW.PrintMore
attribute [local go_sem] max2_int min2_int max_two min_two max_three min_three max_four min_four   -- for this text's walks alone
set_option linter.unusedVariables false
set_option linter.unusedSimpArgs false

/-! ### chancerylaw3_stateOf: function 9 -/
mutual
def chancerylaw3_stateOf.l0 : Nat → List (S45) → Int → Int → Int → List (S37) → Int → Int → Int → Int → Int → Int → Option (Int × Int × Int × Int)
  | 0, _, _, _, _, _, _, _, _, _, _, _ => none
  | k + 1, x1, x2, x3, x4, x17, x18, x19, x156000, x156001, x156002, x156003 => if x19 < x18 then (if 0 ≤ x19 then (if x19 < (x17.length : Int) then (if ((rd_T37 x17 x19).f0) = x2 then (if ((rd_T37 x17 x19).f1) = 2 then (chancerylaw3_stateOf.j1 k x1 x2 x3 x4 x19 x17 x18 x19 false x156000 x156001 x156002 x156003 ((rd_T37 x17 x19).f0) ((rd_T37 x17 x19).f1) ((rd_T37 x17 x19).f2) ((rd_T37 x17 x19).f3) ((rd_T37 x17 x19).f4) ((rd_T37 x17 x19).f5) ((rd_T37 x17 x19).f6)) else (chancerylaw3_stateOf.j1 k x1 x2 x3 x4 x19 x17 x18 x19 (decide (x156001 < 0)) x156000 x156001 x156002 x156003 ((rd_T37 x17 x19).f0) ((rd_T37 x17 x19).f1) ((rd_T37 x17 x19).f2) ((rd_T37 x17 x19).f3) ((rd_T37 x17 x19).f4) ((rd_T37 x17 x19).f5) ((rd_T37 x17 x19).f6))) else (chancerylaw3_stateOf.l0 k x1 x2 x3 x4 x17 x18 (wrap64 (x19 + 1)) x156000 x156001 x156002 x156003)) else (none)) else (none)) else (if x156001 < 0 then (some (x156000, 1000, x156002, x156003)) else (some (x156000, x156001, x156002, x156003)))
def chancerylaw3_stateOf.j1 : Nat → List (S45) → Int → Int → Int → Int → List (S37) → Int → Int → Bool → Int → Int → Int → Int → Int → Int → Int → Int → Int → Int → Int → Option (Int × Int × Int × Int)
  | 0, _, _, _, _, _, _, _, _, _, _, _, _, _, _, _, _, _, _, _, _ => none
  | k + 1, x1, x2, x3, x4, x12, x17, x18, x19, x35, x156000, x156001, x156002, x156003, x158000, x158001, x158002, x158003, x158004, x158005, x158006 => if x35 = true then (chancerylaw3_stateOf.j2 k x1 x2 x3 x4 x12 x17 x18 x19 x156000 (wrap64 (1000 * x158001)) x156002 x156003 x158000 x158001 x158002 x158003 x158004 x158005 x158006) else (chancerylaw3_stateOf.j2 k x1 x2 x3 x4 x12 x17 x18 x19 x156000 x156001 x156002 x156003 x158000 x158001 x158002 x158003 x158004 x158005 x158006)
def chancerylaw3_stateOf.j2 : Nat → List (S45) → Int → Int → Int → Int → List (S37) → Int → Int → Int → Int → Int → Int → Int → Int → Int → Int → Int → Int → Int → Option (Int × Int × Int × Int)
  | 0, _, _, _, _, _, _, _, _, _, _, _, _, _, _, _, _, _, _, _ => none
  | k + 1, x1, x2, x3, x4, x12, x17, x18, x19, x156000, x156001, x156002, x156003, x158000, x158001, x158002, x158003, x158004, x158005, x158006 => if 0 ≤ x12 then (if x12 < (x1.length : Int) then (if ((rd_T45 x1 x12).f0) < x3 then (chancerylaw3_stateOf.j3 k x1 x2 x3 x4 x12 0 x17 x18 x19 (decide (((rd_T45 x1 x12).f0) < x3)) x156000 x156001 x156002 x156003 x158000 x158001 x158002 x158003 x158004 x158005 x158006) else (if ((rd_T45 x1 x12).f0) = x3 then (chancerylaw3_stateOf.j3 k x1 x2 x3 x4 x12 0 x17 x18 x19 (decide (x4 ≥ ((rd_T45 x1 x12).f2))) x156000 x156001 x156002 x156003 x158000 x158001 x158002 x158003 x158004 x158005 x158006) else (chancerylaw3_stateOf.j3 k x1 x2 x3 x4 x12 0 x17 x18 x19 false x156000 x156001 x156002 x156003 x158000 x158001 x158002 x158003 x158004 x158005 x158006))) else (none)) else (none)
def chancerylaw3_stateOf.j4 : Nat → List (S45) → Int → Int → Int → Int → List (S37) → Int → Int → Int → Int → Int → Int → Int → Int → Int → Int → Int → Int → Int → Option (Int × Int × Int × Int)
  | 0, _, _, _, _, _, _, _, _, _, _, _, _, _, _, _, _, _, _, _ => none
  | k + 1, x1, x2, x3, x4, x14, x17, x18, x19, x156000, x156001, x156002, x156003, x158000, x158001, x158002, x158003, x158004, x158005, x158006 => if x14 = 0 then (chancerylaw3_stateOf.l0 k x1 x2 x3 x4 x17 x18 (wrap64 (x19 + 1)) x156000 x156001 x156002 x156003) else (if x158001 = 2 then (chancerylaw3_stateOf.l0 k x1 x2 x3 x4 x17 x18 (wrap64 (x19 + 1)) x156000 x156001 (wrap64 (x156002 + (wrap64 (Int.tdiv (wrap64 (x158005 * x14)) 1000)))) (wrap64 (x156003 + (wrap64 (Int.tdiv (wrap64 (x158006 * x14)) 1000))))) else (if x158001 = 0 then (chancerylaw3_stateOf.l0 k x1 x2 x3 x4 x17 x18 (wrap64 (x19 + 1)) x156000 (mx x156001 x14) x156002 x156003) else (chancerylaw3_stateOf.l0 k x1 x2 x3 x4 x17 x18 (wrap64 (x19 + 1)) x156000 (mn x156001 (wrap64 (1000 - x14))) x156002 x156003)))
def chancerylaw3_stateOf.j3 : Nat → List (S45) → Int → Int → Int → Int → Int → List (S37) → Int → Int → Bool → Int → Int → Int → Int → Int → Int → Int → Int → Int → Int → Int → Option (Int × Int × Int × Int)
  | 0, _, _, _, _, _, _, _, _, _, _, _, _, _, _, _, _, _, _, _, _, _ => none
  | k + 1, x1, x2, x3, x4, x12, x14, x17, x18, x19, x40, x156000, x156001, x156002, x156003, x158000, x158001, x158002, x158003, x158004, x158005, x158006 => if x40 = true then (chancerylaw3_stateOf.j4 k x1 x2 x3 x4 1000 x17 x18 x19 x156000 x156001 x156002 x156003 x158000 x158001 x158002 x158003 x158004 x158005 x158006) else (if 0 ≤ x12 then (if x12 < (x1.length : Int) then (if ((rd_T45 x1 x12).f0) = x3 then (if x4 > ((rd_T45 x1 x12).f1) then (if (wrap64 (((rd_T45 x1 x12).f2) - ((rd_T45 x1 x12).f1))) = 0 then (none) else (chancerylaw3_stateOf.j4 k x1 x2 x3 x4 (wrap64 (Int.tdiv (wrap64 (1000 * (wrap64 (x4 - ((rd_T45 x1 x12).f1))))) (wrap64 (((rd_T45 x1 x12).f2) - ((rd_T45 x1 x12).f1))))) x17 x18 x19 x156000 x156001 x156002 x156003 x158000 x158001 x158002 x158003 x158004 x158005 x158006)) else (chancerylaw3_stateOf.j4 k x1 x2 x3 x4 x14 x17 x18 x19 x156000 x156001 x156002 x156003 x158000 x158001 x158002 x158003 x158004 x158005 x158006)) else (chancerylaw3_stateOf.j4 k x1 x2 x3 x4 x14 x17 x18 x19 x156000 x156001 x156002 x156003 x158000 x158001 x158002 x158003 x158004 x158005 x158006)) else (none)) else (none))
end
def chancerylaw3_stateOf.f (k : Nat) (l0 : List (S37)) (l1 : List (S45)) (a2 : Int) (a3 : Int) (a4 : Int) : Option (Int × Int × Int × Int) := chancerylaw3_stateOf.l0 k l1 a2 a3 a4 l0 (l0.length : Int) 0 a2 (-1) 0 0
theorem chancerylaw3_stateOf.mono_l : ∀ k, (∀ y0 y1 y2 y3 y4 y5 y6 y7 y8 y9 y10, LeO (chancerylaw3_stateOf.l0 k y0 y1 y2 y3 y4 y5 y6 y7 y8 y9 y10) (chancerylaw3_stateOf.l0 (k + 1) y0 y1 y2 y3 y4 y5 y6 y7 y8 y9 y10)) ∧ (∀ y0 y1 y2 y3 y4 y5 y6 y7 y8 y9 y10 y11 y12 y13 y14 y15 y16 y17 y18 y19, LeO (chancerylaw3_stateOf.j1 k y0 y1 y2 y3 y4 y5 y6 y7 y8 y9 y10 y11 y12 y13 y14 y15 y16 y17 y18 y19) (chancerylaw3_stateOf.j1 (k + 1) y0 y1 y2 y3 y4 y5 y6 y7 y8 y9 y10 y11 y12 y13 y14 y15 y16 y17 y18 y19)) ∧ (∀ y0 y1 y2 y3 y4 y5 y6 y7 y8 y9 y10 y11 y12 y13 y14 y15 y16 y17 y18, LeO (chancerylaw3_stateOf.j2 k y0 y1 y2 y3 y4 y5 y6 y7 y8 y9 y10 y11 y12 y13 y14 y15 y16 y17 y18) (chancerylaw3_stateOf.j2 (k + 1) y0 y1 y2 y3 y4 y5 y6 y7 y8 y9 y10 y11 y12 y13 y14 y15 y16 y17 y18)) ∧ (∀ y0 y1 y2 y3 y4 y5 y6 y7 y8 y9 y10 y11 y12 y13 y14 y15 y16 y17 y18, LeO (chancerylaw3_stateOf.j4 k y0 y1 y2 y3 y4 y5 y6 y7 y8 y9 y10 y11 y12 y13 y14 y15 y16 y17 y18) (chancerylaw3_stateOf.j4 (k + 1) y0 y1 y2 y3 y4 y5 y6 y7 y8 y9 y10 y11 y12 y13 y14 y15 y16 y17 y18)) ∧ (∀ y0 y1 y2 y3 y4 y5 y6 y7 y8 y9 y10 y11 y12 y13 y14 y15 y16 y17 y18 y19 y20, LeO (chancerylaw3_stateOf.j3 k y0 y1 y2 y3 y4 y5 y6 y7 y8 y9 y10 y11 y12 y13 y14 y15 y16 y17 y18 y19 y20) (chancerylaw3_stateOf.j3 (k + 1) y0 y1 y2 y3 y4 y5 y6 y7 y8 y9 y10 y11 y12 y13 y14 y15 y16 y17 y18 y19 y20))
  | 0 => ⟨fun _ _ _ _ _ _ _ _ _ _ _ r h => by simp [chancerylaw3_stateOf.l0] at h, fun _ _ _ _ _ _ _ _ _ _ _ _ _ _ _ _ _ _ _ _ r h => by simp [chancerylaw3_stateOf.j1] at h, fun _ _ _ _ _ _ _ _ _ _ _ _ _ _ _ _ _ _ _ r h => by simp [chancerylaw3_stateOf.j2] at h, fun _ _ _ _ _ _ _ _ _ _ _ _ _ _ _ _ _ _ _ r h => by simp [chancerylaw3_stateOf.j4] at h, fun _ _ _ _ _ _ _ _ _ _ _ _ _ _ _ _ _ _ _ _ _ r h => by simp [chancerylaw3_stateOf.j3] at h⟩
  | k + 1 => by
    obtain ⟨ih0, ih1, ih2, ih3, ih4⟩ := chancerylaw3_stateOf.mono_l k
    refine ⟨?_, ?_, ?_, ?_, ?_⟩
    · intro y0 y1 y2 y3 y4 y5 y6 y7 y8 y9 y10
      unfold chancerylaw3_stateOf.l0
      repeat' first
      | (with_reducible exact ih0 _ _ _ _ _ _ _ _ _ _ _)
      | (with_reducible exact ih1 _ _ _ _ _ _ _ _ _ _ _ _ _ _ _ _ _ _ _ _)
      | (with_reducible exact ih2 _ _ _ _ _ _ _ _ _ _ _ _ _ _ _ _ _ _ _)
      | (with_reducible exact ih3 _ _ _ _ _ _ _ _ _ _ _ _ _ _ _ _ _ _ _)
      | (with_reducible exact ih4 _ _ _ _ _ _ _ _ _ _ _ _ _ _ _ _ _ _ _ _ _)
      | (with_reducible exact LeO.refl _)
      | (with_reducible exact LeO.none _)
      | (with_reducible refine LeO.ite ?_ ?_)
      | (with_reducible refine LeO.bind ?_ (fun _ => ?_))
      | exact ih0 _ _ _ _ _ _ _ _ _ _ _
      | exact ih1 _ _ _ _ _ _ _ _ _ _ _ _ _ _ _ _ _ _ _ _
      | exact ih2 _ _ _ _ _ _ _ _ _ _ _ _ _ _ _ _ _ _ _
      | exact ih3 _ _ _ _ _ _ _ _ _ _ _ _ _ _ _ _ _ _ _
      | exact ih4 _ _ _ _ _ _ _ _ _ _ _ _ _ _ _ _ _ _ _ _ _
      | exact LeO.none _
      | refine LeO.ite ?_ ?_
      | refine LeO.bind ?_ (fun _ => ?_)
    · intro y0 y1 y2 y3 y4 y5 y6 y7 y8 y9 y10 y11 y12 y13 y14 y15 y16 y17 y18 y19
      unfold chancerylaw3_stateOf.j1
      repeat' first
      | (with_reducible exact ih0 _ _ _ _ _ _ _ _ _ _ _)
      | (with_reducible exact ih1 _ _ _ _ _ _ _ _ _ _ _ _ _ _ _ _ _ _ _ _)
      | (with_reducible exact ih2 _ _ _ _ _ _ _ _ _ _ _ _ _ _ _ _ _ _ _)
      | (with_reducible exact ih3 _ _ _ _ _ _ _ _ _ _ _ _ _ _ _ _ _ _ _)
      | (with_reducible exact ih4 _ _ _ _ _ _ _ _ _ _ _ _ _ _ _ _ _ _ _ _ _)
      | (with_reducible exact LeO.refl _)
      | (with_reducible exact LeO.none _)
      | (with_reducible refine LeO.ite ?_ ?_)
      | (with_reducible refine LeO.bind ?_ (fun _ => ?_))
      | exact ih0 _ _ _ _ _ _ _ _ _ _ _
      | exact ih1 _ _ _ _ _ _ _ _ _ _ _ _ _ _ _ _ _ _ _ _
      | exact ih2 _ _ _ _ _ _ _ _ _ _ _ _ _ _ _ _ _ _ _
      | exact ih3 _ _ _ _ _ _ _ _ _ _ _ _ _ _ _ _ _ _ _
      | exact ih4 _ _ _ _ _ _ _ _ _ _ _ _ _ _ _ _ _ _ _ _ _
      | exact LeO.none _
      | refine LeO.ite ?_ ?_
      | refine LeO.bind ?_ (fun _ => ?_)
    · intro y0 y1 y2 y3 y4 y5 y6 y7 y8 y9 y10 y11 y12 y13 y14 y15 y16 y17 y18
      unfold chancerylaw3_stateOf.j2
      repeat' first
      | (with_reducible exact ih0 _ _ _ _ _ _ _ _ _ _ _)
      | (with_reducible exact ih1 _ _ _ _ _ _ _ _ _ _ _ _ _ _ _ _ _ _ _ _)
      | (with_reducible exact ih2 _ _ _ _ _ _ _ _ _ _ _ _ _ _ _ _ _ _ _)
      | (with_reducible exact ih3 _ _ _ _ _ _ _ _ _ _ _ _ _ _ _ _ _ _ _)
      | (with_reducible exact ih4 _ _ _ _ _ _ _ _ _ _ _ _ _ _ _ _ _ _ _ _ _)
      | (with_reducible exact LeO.refl _)
      | (with_reducible exact LeO.none _)
      | (with_reducible refine LeO.ite ?_ ?_)
      | (with_reducible refine LeO.bind ?_ (fun _ => ?_))
      | exact ih0 _ _ _ _ _ _ _ _ _ _ _
      | exact ih1 _ _ _ _ _ _ _ _ _ _ _ _ _ _ _ _ _ _ _ _
      | exact ih2 _ _ _ _ _ _ _ _ _ _ _ _ _ _ _ _ _ _ _
      | exact ih3 _ _ _ _ _ _ _ _ _ _ _ _ _ _ _ _ _ _ _
      | exact ih4 _ _ _ _ _ _ _ _ _ _ _ _ _ _ _ _ _ _ _ _ _
      | exact LeO.none _
      | refine LeO.ite ?_ ?_
      | refine LeO.bind ?_ (fun _ => ?_)
    · intro y0 y1 y2 y3 y4 y5 y6 y7 y8 y9 y10 y11 y12 y13 y14 y15 y16 y17 y18
      unfold chancerylaw3_stateOf.j4
      repeat' first
      | (with_reducible exact ih0 _ _ _ _ _ _ _ _ _ _ _)
      | (with_reducible exact ih1 _ _ _ _ _ _ _ _ _ _ _ _ _ _ _ _ _ _ _ _)
      | (with_reducible exact ih2 _ _ _ _ _ _ _ _ _ _ _ _ _ _ _ _ _ _ _)
      | (with_reducible exact ih3 _ _ _ _ _ _ _ _ _ _ _ _ _ _ _ _ _ _ _)
      | (with_reducible exact ih4 _ _ _ _ _ _ _ _ _ _ _ _ _ _ _ _ _ _ _ _ _)
      | (with_reducible exact LeO.refl _)
      | (with_reducible exact LeO.none _)
      | (with_reducible refine LeO.ite ?_ ?_)
      | (with_reducible refine LeO.bind ?_ (fun _ => ?_))
      | exact ih0 _ _ _ _ _ _ _ _ _ _ _
      | exact ih1 _ _ _ _ _ _ _ _ _ _ _ _ _ _ _ _ _ _ _ _
      | exact ih2 _ _ _ _ _ _ _ _ _ _ _ _ _ _ _ _ _ _ _
      | exact ih3 _ _ _ _ _ _ _ _ _ _ _ _ _ _ _ _ _ _ _
      | exact ih4 _ _ _ _ _ _ _ _ _ _ _ _ _ _ _ _ _ _ _ _ _
      | exact LeO.none _
      | refine LeO.ite ?_ ?_
      | refine LeO.bind ?_ (fun _ => ?_)
    · intro y0 y1 y2 y3 y4 y5 y6 y7 y8 y9 y10 y11 y12 y13 y14 y15 y16 y17 y18 y19 y20
      unfold chancerylaw3_stateOf.j3
      repeat' first
      | (with_reducible exact ih0 _ _ _ _ _ _ _ _ _ _ _)
      | (with_reducible exact ih1 _ _ _ _ _ _ _ _ _ _ _ _ _ _ _ _ _ _ _ _)
      | (with_reducible exact ih2 _ _ _ _ _ _ _ _ _ _ _ _ _ _ _ _ _ _ _)
      | (with_reducible exact ih3 _ _ _ _ _ _ _ _ _ _ _ _ _ _ _ _ _ _ _)
      | (with_reducible exact ih4 _ _ _ _ _ _ _ _ _ _ _ _ _ _ _ _ _ _ _ _ _)
      | (with_reducible exact LeO.refl _)
      | (with_reducible exact LeO.none _)
      | (with_reducible refine LeO.ite ?_ ?_)
      | (with_reducible refine LeO.bind ?_ (fun _ => ?_))
      | exact ih0 _ _ _ _ _ _ _ _ _ _ _
      | exact ih1 _ _ _ _ _ _ _ _ _ _ _ _ _ _ _ _ _ _ _ _
      | exact ih2 _ _ _ _ _ _ _ _ _ _ _ _ _ _ _ _ _ _ _
      | exact ih3 _ _ _ _ _ _ _ _ _ _ _ _ _ _ _ _ _ _ _
      | exact ih4 _ _ _ _ _ _ _ _ _ _ _ _ _ _ _ _ _ _ _ _ _
      | exact LeO.none _
      | refine LeO.ite ?_ ?_
      | refine LeO.bind ?_ (fun _ => ?_)
theorem chancerylaw3_stateOf.mono : ∀ a0 a1 a2 a3 a4 k, LeO (chancerylaw3_stateOf.f k a0 a1 a2 a3 a4) (chancerylaw3_stateOf.f (k + 1) a0 a1 a2 a3 a4) := by
  intro a0 a1 a2 a3 a4 k
  obtain ⟨ih0, ih1, ih2, ih3, ih4⟩ := chancerylaw3_stateOf.mono_l k
  unfold chancerylaw3_stateOf.f
  repeat' first
      | (with_reducible exact ih0 _ _ _ _ _ _ _ _ _ _ _)
      | (with_reducible exact ih1 _ _ _ _ _ _ _ _ _ _ _ _ _ _ _ _ _ _ _ _)
      | (with_reducible exact ih2 _ _ _ _ _ _ _ _ _ _ _ _ _ _ _ _ _ _ _)
      | (with_reducible exact ih3 _ _ _ _ _ _ _ _ _ _ _ _ _ _ _ _ _ _ _)
      | (with_reducible exact ih4 _ _ _ _ _ _ _ _ _ _ _ _ _ _ _ _ _ _ _ _ _)
      | (with_reducible exact LeO.refl _)
      | (with_reducible exact LeO.none _)
      | (with_reducible refine LeO.ite ?_ ?_)
      | (with_reducible refine LeO.bind ?_ (fun _ => ?_))
      | exact ih0 _ _ _ _ _ _ _ _ _ _ _
      | exact ih1 _ _ _ _ _ _ _ _ _ _ _ _ _ _ _ _ _ _ _ _
      | exact ih2 _ _ _ _ _ _ _ _ _ _ _ _ _ _ _ _ _ _ _
      | exact ih3 _ _ _ _ _ _ _ _ _ _ _ _ _ _ _ _ _ _ _
      | exact ih4 _ _ _ _ _ _ _ _ _ _ _ _ _ _ _ _ _ _ _ _ _
      | exact LeO.none _
      | refine LeO.ite ?_ ?_
      | refine LeO.bind ?_ (fun _ => ?_)
set_option maxHeartbeats 8000000 in
set_option maxRecDepth 100000 in
theorem chancerylaw3_stateOf.calls (k : Nat) (A0 : Option Addr) (c0 : Nat) (l0 : List (S37)) (A1 : Option Addr) (c1 : Nat) (l1 : List (S45)) (a2 : Int) (a3 : Int) (a4 : Int) (r1 : Int) (r2 : Int) (r3 : Int) (r4 : Int) (w : World) (hr0 : Kd.C k37 w A0 l0.length l0) (hc0 : l0.length ≤ c0) (hr1 : Kd.C k45 w A1 l1.length l1) (hc1 : l1.length ≤ c1) (h : chancerylaw3_stateOf.f k l0 l1 a2 a3 a4 = some (r1, r2, r3, r4)) :
    Calls Try.prog 9 #[.slice A0 l0.length c0, .slice A1 l1.length c1, .int .i64 a2, .int .i64 a3, .int .i64 a4] w fun e w' => e = .returned (.agg #[.int .i64 r1, .int .i64 r2, .int .i64 r3, .int .i64 r4]) ∧ Below w.heap.size w w' := by
  have hu33 := Try.underlying33
  have hu37 := Try.underlying37
  have HR0 := Aside0.mk hr0
  have HC0 := Aside0.mk hc0
  clear hr0 hc0
  have HR1 := Aside0.mk hr1
  have HC1 := Aside0.mk hc1
  clear hr1 hc1
  have HB := Aside0.mk (Below.refl w.heap.size w)
  have H : (chancerylaw3_stateOf.l0 k l1 a2 a3 a4 l0 (l0.length : Int) 0 a2 (-1) 0 0) = some (r1, r2, r3, r4) := h
  clear h
  have H' := Aside0.mk H
  clear H
  go_enter Try.func9, Try.ntmps9
  go_wp2_with (first | ((with_reducible refine gate_dst (N := 10) rfl ?_); refine box_event ?hg (N := 10) ?hd (cs := #[.int .i64 0, .int .i64 0, .int .i64 0, .int .i64 0]) (t := 33) ?hr ?_; (case hd => rfl); (case hg => rfl); (case hr => first | (go_simp; done) | (go_simp; rfl)); intro gb154 hg w6 hbox hb; have n0_ := Aside0.mk (below_step (by repeat (first | (with_reducible first | exact HB.out | apply below_alloc | apply pw_below_drewN | apply below_drew1) | exact HB.out)) hb); have n1_ := Aside0.mk (hbox); have n2_ := Aside0.mk ((by rw [hg]; exact (below_size (by repeat (first | (with_reducible first | exact HB.out | apply below_alloc | apply pw_below_drewN | apply below_drew1) | exact HB.out))) : w.heap.size ≤ gb154)); have n3_ := Aside0.mk ((by rw [hg]; exact (below_size (by repeat (first | (with_reducible first | exact HB.out | apply below_alloc | apply pw_below_drewN | apply below_drew1) | exact HB.out))) : w.heap.size ≤ gb154)); clear HB; have HB := n0_; have BK154 := n1_; have GW154 := n2_; have GE154 := n3_; clear n0_ n1_ n2_ n3_; clear hb hbox hg) | ((with_reducible refine gate_dst (N := 11) rfl ?_); refine box_event ?hg (N := 11) ?hd (cs := #[.int .i64 0, .int .i64 0, .int .i64 0, .int .i64 0]) (t := 33) ?hr ?_; (case hd => rfl); (case hg => rfl); (case hr => first | (go_simp; done) | (go_simp; rfl)); intro gb155 hg w7 hbox hb; have n0_ := Aside0.mk (blk_below (g := gb154) (o := .cells #[.int .i64 0, .int .i64 0, .int .i64 0, .int .i64 0] 33 (0, 0)) (by (with_reducible repeat (first | refine blk_drewN ?_ _ | refine blk_drew ?_ | refine blk_alloc ?_ _)); exact BK154.out) hb); have n1_ := Aside0.mk (below_step (by repeat (first | (with_reducible first | exact HB.out | apply below_alloc | apply pw_below_drewN | apply below_drew1 | refine below_set ?_ GE154.out) | exact HB.out)) hb); have n2_ := Aside0.mk (hbox); have n3_ := Aside0.mk ((by rw [hg]; exact (below_size (by repeat (first | (with_reducible first | exact HB.out | apply below_alloc | apply pw_below_drewN | apply below_drew1 | refine below_set ?_ GE154.out) | exact HB.out))) : w.heap.size ≤ gb155)); have n4_ := Aside0.mk ((by rw [hg]; exact (below_size (by repeat (first | (with_reducible first | exact HB.out | apply below_alloc | apply pw_below_drewN | apply below_drew1 | refine below_set ?_ GE154.out) | exact HB.out))) : w.heap.size ≤ gb155)); have n5_ := Aside0.mk ((by rw [hg]; exact Nat.ne_of_lt (blk_lt (g := gb154) (o := .cells #[.int .i64 0, .int .i64 0, .int .i64 0, .int .i64 0] 33 (0, 0)) (by (with_reducible repeat (first | refine blk_drewN ?_ _ | refine blk_drew ?_ | refine blk_alloc ?_ _)); exact BK154.out)) : gb154 ≠ gb155)); have n6_ := Aside0.mk ((by rw [hg]; exact Nat.ne_of_gt (blk_lt (g := gb154) (o := .cells #[.int .i64 0, .int .i64 0, .int .i64 0, .int .i64 0] 33 (0, 0)) (by (with_reducible repeat (first | refine blk_drewN ?_ _ | refine blk_drew ?_ | refine blk_alloc ?_ _)); exact BK154.out)) : gb155 ≠ gb154)); clear BK154; clear HB; have BK154 := n0_; have HB := n1_; have BK155 := n2_; have GW155 := n3_; have GE155 := n4_; have NB154_155 := n5_; have NB155_154 := n6_; clear n0_ n1_ n2_ n3_ n4_ n5_ n6_; clear hb hbox hg; have hnb8 := NB155_154.out; have hnc8 := NB154_155.out; have hcz9_0 : w7.cell? ⟨gb155, 0, none⟩ = some (.int .i64 0) := (blk_cell BK155.out 0).trans rfl; have hcz9_1 : w7.cell? ⟨gb155, 1, none⟩ = some (.int .i64 0) := (blk_cell BK155.out 1).trans rfl; have hcz9_2 : w7.cell? ⟨gb155, 2, none⟩ = some (.int .i64 0) := (blk_cell BK155.out 2).trans rfl; have hcz9_3 : w7.cell? ⟨gb155, 3, none⟩ = some (.int .i64 0) := (blk_cell BK155.out 3).trans rfl; have hfz9_0 := blk_frozen BK155.out 0; have hfz9_1 := blk_frozen BK155.out 1; have hfz9_2 := blk_frozen BK155.out 2; have hfz9_3 := blk_frozen BK155.out 3))
  repeat (go_quiet (first | ((with_reducible refine gate_dst (N := 10) rfl ?_); refine box_event ?hg (N := 10) ?hd (cs := #[.int .i64 0, .int .i64 0, .int .i64 0, .int .i64 0]) (t := 33) ?hr ?_; (case hd => rfl); (case hg => rfl); (case hr => first | (go_simp; done) | (go_simp; rfl)); intro gb154 hg w6 hbox hb; have n0_ := Aside0.mk (below_step (by repeat (first | (with_reducible first | exact HB.out | apply below_alloc | apply pw_below_drewN | apply below_drew1) | exact HB.out)) hb); have n1_ := Aside0.mk (hbox); have n2_ := Aside0.mk ((by rw [hg]; exact (below_size (by repeat (first | (with_reducible first | exact HB.out | apply below_alloc | apply pw_below_drewN | apply below_drew1) | exact HB.out))) : w.heap.size ≤ gb154)); have n3_ := Aside0.mk ((by rw [hg]; exact (below_size (by repeat (first | (with_reducible first | exact HB.out | apply below_alloc | apply pw_below_drewN | apply below_drew1) | exact HB.out))) : w.heap.size ≤ gb154)); clear HB; have HB := n0_; have BK154 := n1_; have GW154 := n2_; have GE154 := n3_; clear n0_ n1_ n2_ n3_; clear hb hbox hg) | ((with_reducible refine gate_dst (N := 11) rfl ?_); refine box_event ?hg (N := 11) ?hd (cs := #[.int .i64 0, .int .i64 0, .int .i64 0, .int .i64 0]) (t := 33) ?hr ?_; (case hd => rfl); (case hg => rfl); (case hr => first | (go_simp; done) | (go_simp; rfl)); intro gb155 hg w7 hbox hb; have n0_ := Aside0.mk (blk_below (g := gb154) (o := .cells #[.int .i64 0, .int .i64 0, .int .i64 0, .int .i64 0] 33 (0, 0)) (by (with_reducible repeat (first | refine blk_drewN ?_ _ | refine blk_drew ?_ | refine blk_alloc ?_ _)); exact BK154.out) hb); have n1_ := Aside0.mk (below_step (by repeat (first | (with_reducible first | exact HB.out | apply below_alloc | apply pw_below_drewN | apply below_drew1 | refine below_set ?_ GE154.out) | exact HB.out)) hb); have n2_ := Aside0.mk (hbox); have n3_ := Aside0.mk ((by rw [hg]; exact (below_size (by repeat (first | (with_reducible first | exact HB.out | apply below_alloc | apply pw_below_drewN | apply below_drew1 | refine below_set ?_ GE154.out) | exact HB.out))) : w.heap.size ≤ gb155)); have n4_ := Aside0.mk ((by rw [hg]; exact (below_size (by repeat (first | (with_reducible first | exact HB.out | apply below_alloc | apply pw_below_drewN | apply below_drew1 | refine below_set ?_ GE154.out) | exact HB.out))) : w.heap.size ≤ gb155)); have n5_ := Aside0.mk ((by rw [hg]; exact Nat.ne_of_lt (blk_lt (g := gb154) (o := .cells #[.int .i64 0, .int .i64 0, .int .i64 0, .int .i64 0] 33 (0, 0)) (by (with_reducible repeat (first | refine blk_drewN ?_ _ | refine blk_drew ?_ | refine blk_alloc ?_ _)); exact BK154.out)) : gb154 ≠ gb155)); have n6_ := Aside0.mk ((by rw [hg]; exact Nat.ne_of_gt (blk_lt (g := gb154) (o := .cells #[.int .i64 0, .int .i64 0, .int .i64 0, .int .i64 0] 33 (0, 0)) (by (with_reducible repeat (first | refine blk_drewN ?_ _ | refine blk_drew ?_ | refine blk_alloc ?_ _)); exact BK154.out)) : gb155 ≠ gb154)); clear BK154; clear HB; have BK154 := n0_; have HB := n1_; have BK155 := n2_; have GW155 := n3_; have GE155 := n4_; have NB154_155 := n5_; have NB155_154 := n6_; clear n0_ n1_ n2_ n3_ n4_ n5_ n6_; clear hb hbox hg; have hnb8 := NB155_154.out; have hnc8 := NB154_155.out; have hcz9_0 : w7.cell? ⟨gb155, 0, none⟩ = some (.int .i64 0) := (blk_cell BK155.out 0).trans rfl; have hcz9_1 : w7.cell? ⟨gb155, 1, none⟩ = some (.int .i64 0) := (blk_cell BK155.out 1).trans rfl; have hcz9_2 : w7.cell? ⟨gb155, 2, none⟩ = some (.int .i64 0) := (blk_cell BK155.out 2).trans rfl; have hcz9_3 : w7.cell? ⟨gb155, 3, none⟩ = some (.int .i64 0) := (blk_cell BK155.out 3).trans rfl; have hfz9_0 := blk_frozen BK155.out 0; have hfz9_1 := blk_frozen BK155.out 1; have hfz9_2 := blk_frozen BK155.out 2; have hfz9_3 := blk_frozen BK155.out 3)); try go_wp2_with (first | ((with_reducible refine gate_dst (N := 10) rfl ?_); refine box_event ?hg (N := 10) ?hd (cs := #[.int .i64 0, .int .i64 0, .int .i64 0, .int .i64 0]) (t := 33) ?hr ?_; (case hd => rfl); (case hg => rfl); (case hr => first | (go_simp; done) | (go_simp; rfl)); intro gb154 hg w6 hbox hb; have n0_ := Aside0.mk (below_step (by repeat (first | (with_reducible first | exact HB.out | apply below_alloc | apply pw_below_drewN | apply below_drew1) | exact HB.out)) hb); have n1_ := Aside0.mk (hbox); have n2_ := Aside0.mk ((by rw [hg]; exact (below_size (by repeat (first | (with_reducible first | exact HB.out | apply below_alloc | apply pw_below_drewN | apply below_drew1) | exact HB.out))) : w.heap.size ≤ gb154)); have n3_ := Aside0.mk ((by rw [hg]; exact (below_size (by repeat (first | (with_reducible first | exact HB.out | apply below_alloc | apply pw_below_drewN | apply below_drew1) | exact HB.out))) : w.heap.size ≤ gb154)); clear HB; have HB := n0_; have BK154 := n1_; have GW154 := n2_; have GE154 := n3_; clear n0_ n1_ n2_ n3_; clear hb hbox hg) | ((with_reducible refine gate_dst (N := 11) rfl ?_); refine box_event ?hg (N := 11) ?hd (cs := #[.int .i64 0, .int .i64 0, .int .i64 0, .int .i64 0]) (t := 33) ?hr ?_; (case hd => rfl); (case hg => rfl); (case hr => first | (go_simp; done) | (go_simp; rfl)); intro gb155 hg w7 hbox hb; have n0_ := Aside0.mk (blk_below (g := gb154) (o := .cells #[.int .i64 0, .int .i64 0, .int .i64 0, .int .i64 0] 33 (0, 0)) (by (with_reducible repeat (first | refine blk_drewN ?_ _ | refine blk_drew ?_ | refine blk_alloc ?_ _)); exact BK154.out) hb); have n1_ := Aside0.mk (below_step (by repeat (first | (with_reducible first | exact HB.out | apply below_alloc | apply pw_below_drewN | apply below_drew1 | refine below_set ?_ GE154.out) | exact HB.out)) hb); have n2_ := Aside0.mk (hbox); have n3_ := Aside0.mk ((by rw [hg]; exact (below_size (by repeat (first | (with_reducible first | exact HB.out | apply below_alloc | apply pw_below_drewN | apply below_drew1 | refine below_set ?_ GE154.out) | exact HB.out))) : w.heap.size ≤ gb155)); have n4_ := Aside0.mk ((by rw [hg]; exact (below_size (by repeat (first | (with_reducible first | exact HB.out | apply below_alloc | apply pw_below_drewN | apply below_drew1 | refine below_set ?_ GE154.out) | exact HB.out))) : w.heap.size ≤ gb155)); have n5_ := Aside0.mk ((by rw [hg]; exact Nat.ne_of_lt (blk_lt (g := gb154) (o := .cells #[.int .i64 0, .int .i64 0, .int .i64 0, .int .i64 0] 33 (0, 0)) (by (with_reducible repeat (first | refine blk_drewN ?_ _ | refine blk_drew ?_ | refine blk_alloc ?_ _)); exact BK154.out)) : gb154 ≠ gb155)); have n6_ := Aside0.mk ((by rw [hg]; exact Nat.ne_of_gt (blk_lt (g := gb154) (o := .cells #[.int .i64 0, .int .i64 0, .int .i64 0, .int .i64 0] 33 (0, 0)) (by (with_reducible repeat (first | refine blk_drewN ?_ _ | refine blk_drew ?_ | refine blk_alloc ?_ _)); exact BK154.out)) : gb155 ≠ gb154)); clear BK154; clear HB; have BK154 := n0_; have HB := n1_; have BK155 := n2_; have GW155 := n3_; have GE155 := n4_; have NB154_155 := n5_; have NB155_154 := n6_; clear n0_ n1_ n2_ n3_ n4_ n5_ n6_; clear hb hbox hg; have hnb8 := NB155_154.out; have hnc8 := NB154_155.out; have hcz9_0 : w7.cell? ⟨gb155, 0, none⟩ = some (.int .i64 0) := (blk_cell BK155.out 0).trans rfl; have hcz9_1 : w7.cell? ⟨gb155, 1, none⟩ = some (.int .i64 0) := (blk_cell BK155.out 1).trans rfl; have hcz9_2 : w7.cell? ⟨gb155, 2, none⟩ = some (.int .i64 0) := (blk_cell BK155.out 2).trans rfl; have hcz9_3 : w7.cell? ⟨gb155, 3, none⟩ = some (.int .i64 0) := (blk_cell BK155.out 3).trans rfl; have hfz9_0 := blk_frozen BK155.out 0; have hfz9_1 := blk_frozen BK155.out 1; have hfz9_2 := blk_frozen BK155.out 2; have hfz9_3 := blk_frozen BK155.out 3)))
  go_loopg [19] k (fun kq v19 w' => ∃ (x19_1 : Int) (x156001_1 : Int) (x156002_1 : Int) (x156003_1 : Int), v19 = .int .i64 x19_1 ∧ Aside0 (chancerylaw3_stateOf.l0 kq l1 a2 a3 a4 l0 (l0.length : Int) x19_1 a2 x156001_1 x156002_1 x156003_1 = some (r1, r2, r3, r4)) ∧ Aside0 (kq ≤ k) ∧ Aside0 (w'.heap[gb154]? = some (.cells #[.int .i64 0, .int .i64 0, .int .i64 0, .int .i64 0] 33 (0, 0))) ∧ Aside0 (w'.heap[gb155]? = some (.cells #[.int .i64 a2, .int .i64 x156001_1, .int .i64 x156002_1, .int .i64 x156003_1] 33 (0, 0))) ∧ Aside0 (Below w.heap.size w w'))
  case atStart => exact ⟨(0), ((-1)), (0), (0), (by first | rfl | (simp; done) | (simp [*]; done)), H', ⟨Nat.le_refl _⟩, ⟨by (with_reducible repeat (first | refine blk_drewN ?_ _ | refine blk_drew ?_ | refine blk_alloc ?_ _)); refine blk_far ?_ NB154_155.out _; (with_reducible repeat (first | refine blk_drewN ?_ _ | refine blk_drew ?_ | refine blk_alloc ?_ _)); refine blk_far ?_ NB154_155.out _; (with_reducible repeat (first | refine blk_drewN ?_ _ | refine blk_drew ?_ | refine blk_alloc ?_ _)); refine blk_far ?_ NB154_155.out _; (with_reducible repeat (first | refine blk_drewN ?_ _ | refine blk_drew ?_ | refine blk_alloc ?_ _)); refine blk_far ?_ NB154_155.out _; (with_reducible repeat (first | refine blk_drewN ?_ _ | refine blk_drew ?_ | refine blk_alloc ?_ _)); exact BK154.out⟩, ⟨by (with_reducible repeat (first | refine blk_drewN ?_ _ | refine blk_drew ?_ | refine blk_alloc ?_ _)); refine blk_put (cs := #[.int .i64 a2, .int .i64 (-1), .int .i64 0, .int .i64 0]) ?_ 3 _ rfl; (with_reducible repeat (first | refine blk_drewN ?_ _ | refine blk_drew ?_ | refine blk_alloc ?_ _)); refine blk_put (cs := #[.int .i64 a2, .int .i64 (-1), .int .i64 0, .int .i64 0]) ?_ 2 _ rfl; (with_reducible repeat (first | refine blk_drewN ?_ _ | refine blk_drew ?_ | refine blk_alloc ?_ _)); refine blk_put (cs := #[.int .i64 a2, .int .i64 0, .int .i64 0, .int .i64 0]) ?_ 1 _ rfl; (with_reducible repeat (first | refine blk_drewN ?_ _ | refine blk_drew ?_ | refine blk_alloc ?_ _)); refine blk_put (cs := #[.int .i64 0, .int .i64 0, .int .i64 0, .int .i64 0]) ?_ 0 _ rfl; (with_reducible repeat (first | refine blk_drewN ?_ _ | refine blk_drew ?_ | refine blk_alloc ?_ _)); exact BK155.out⟩, ⟨by repeat (first | (with_reducible first | exact HB.out | apply below_alloc | apply pw_below_drewN | apply below_drew1 | refine below_set ?_ GE154.out | refine below_set ?_ GE155.out) | exact HB.out)⟩⟩
  case round =>
    clear H'
    try clear c1
    try clear p2
    try clear c8
    try clear c9
    try clear hcz9_0
    try clear hcz9_1
    try clear hcz9_2
    try clear hcz9_3
    try clear hfz9_0
    try clear hfz9_1
    try clear hfz9_2
    try clear hfz9_3
    obtain ⟨x19_1, x156001_1, x156002_1, x156003_1, rfl, HA, HK1, BK154, BK155, HB⟩ := hrel
    cases gk with
    | zero => exact absurd HA.out (by simp [chancerylaw3_stateOf.l0])
    | succ k1 =>
      have H := HA.out
      clear HA
      simp only [chancerylaw3_stateOf.l0] at H
      by_cases c10 : x19_1 < (l0.length : Int)
      · rw [if_pos c10] at H
        have c10b0 : decide (x19_1 < (l0.length : Int)) = true := decide_eq_true c10
        clear c10
        by_cases c11 : 0 ≤ x19_1
        · rw [if_pos c11] at H
          have c11b0 : decide (0 ≤ x19_1) = true := decide_eq_true c11
          clear c11
          by_cases c12 : x19_1 < (l0.length : Int)
          · rw [if_pos c12] at H
            have c12b0 : decide (x19_1 < (l0.length : Int)) = true := decide_eq_true c12
            clear c12
            by_cases c13 : ((rd_T37 l0 x19_1).f0) = a2
            · rw [if_pos c13] at H
              have c13b0 : (((rd_T37 l0 x19_1).f0) == a2) = true := beq_iff_eq.mpr c13
              have c13b1 : (((rd_T37 l0 x19_1).f0) != a2) = false := bne_eq_false_iff_eq.mpr c13
              clear c13
              have HC14 := Aside0.mk H
              clear H
              have p156 : 0 ≤ (x19_1 : Int) := of_decide_eq_true (by first | (with_reducible assumption) | assumption)
              have q156 : x19_1 < (l0.length : Int) := of_decide_eq_true (by first | (with_reducible assumption) | assumption)
              obtain ⟨ad156, e156, hx156_0, hx156_1, hx156_2, hx156_3, hx156_4, hx156_5, hx156_6⟩ := at_T37 HR0.out x19_1 p156 q156
              cases e156
              replace hx156_0 := (HB.out.cell (World.block_lt_of_cell? w _ hx156_0)).trans hx156_0
              replace hx156_1 := (HB.out.cell (World.block_lt_of_cell? w _ hx156_1)).trans hx156_1
              replace hx156_2 := (HB.out.cell (World.block_lt_of_cell? w _ hx156_2)).trans hx156_2
              replace hx156_3 := (HB.out.cell (World.block_lt_of_cell? w _ hx156_3)).trans hx156_3
              replace hx156_4 := (HB.out.cell (World.block_lt_of_cell? w _ hx156_4)).trans hx156_4
              replace hx156_5 := (HB.out.cell (World.block_lt_of_cell? w _ hx156_5)).trans hx156_5
              replace hx156_6 := (HB.out.cell (World.block_lt_of_cell? w _ hx156_6)).trans hx156_6
              replace p156 := eq_true p156
              replace q156 := eq_true q156
              go_upto_region 6 with (first | ((with_reducible refine gate_dst (N := 13) rfl ?_); refine box_event ?hg (N := 13) ?hd (cs := #[.int .i64 0, .int .i64 0, .int .i64 0, .int .i64 0, .int .i64 0, .int .i64 0, .int .i64 0]) (t := 37) ?hr ?_; (case hd => rfl); (case hg => rfl); (case hr => first | (go_simp; done) | (go_simp; rfl)); intro gb157 hg w15 hbox hb; have n0_ := Aside0.mk (blk_below (g := gb154) (o := .cells #[.int .i64 0, .int .i64 0, .int .i64 0, .int .i64 0] 33 (0, 0)) (by (with_reducible repeat (first | refine blk_drewN ?_ _ | refine blk_drew ?_ | refine blk_alloc ?_ _)); exact BK154.out) hb); have n1_ := Aside0.mk (blk_below (g := gb155) (o := .cells #[.int .i64 a2, .int .i64 x156001_1, .int .i64 x156002_1, .int .i64 x156003_1] 33 (0, 0)) (by (with_reducible repeat (first | refine blk_drewN ?_ _ | refine blk_drew ?_ | refine blk_alloc ?_ _)); exact BK155.out) hb); have n2_ := Aside0.mk (below_step (by repeat (first | (with_reducible first | exact HB.out | apply below_alloc | apply pw_below_drewN | apply below_drew1 | refine below_set ?_ GE154.out | refine below_set ?_ GE155.out) | exact HB.out)) hb); have n3_ := Aside0.mk (hbox); have n4_ := Aside0.mk ((by rw [hg]; exact (below_size (by repeat (first | (with_reducible first | exact HB.out | apply below_alloc | apply pw_below_drewN | apply below_drew1 | refine below_set ?_ GE154.out | refine below_set ?_ GE155.out) | exact HB.out))) : w.heap.size ≤ gb157)); have n5_ := Aside0.mk ((by rw [hg]; exact (below_size (by repeat (first | (with_reducible first | exact HB.out | apply below_alloc | apply pw_below_drewN | apply below_drew1 | refine below_set ?_ GE154.out | refine below_set ?_ GE155.out) | exact HB.out))) : w.heap.size ≤ gb157)); have n6_ := Aside0.mk ((by rw [hg]; exact Nat.ne_of_lt (blk_lt (g := gb154) (o := .cells #[.int .i64 0, .int .i64 0, .int .i64 0, .int .i64 0] 33 (0, 0)) (by (with_reducible repeat (first | refine blk_drewN ?_ _ | refine blk_drew ?_ | refine blk_alloc ?_ _)); exact BK154.out)) : gb154 ≠ gb157)); have n7_ := Aside0.mk ((by rw [hg]; exact Nat.ne_of_gt (blk_lt (g := gb154) (o := .cells #[.int .i64 0, .int .i64 0, .int .i64 0, .int .i64 0] 33 (0, 0)) (by (with_reducible repeat (first | refine blk_drewN ?_ _ | refine blk_drew ?_ | refine blk_alloc ?_ _)); exact BK154.out)) : gb157 ≠ gb154)); have n8_ := Aside0.mk ((by rw [hg]; exact Nat.ne_of_lt (blk_lt (g := gb155) (o := .cells #[.int .i64 a2, .int .i64 x156001_1, .int .i64 x156002_1, .int .i64 x156003_1] 33 (0, 0)) (by (with_reducible repeat (first | refine blk_drewN ?_ _ | refine blk_drew ?_ | refine blk_alloc ?_ _)); exact BK155.out)) : gb155 ≠ gb157)); have n9_ := Aside0.mk ((by rw [hg]; exact Nat.ne_of_gt (blk_lt (g := gb155) (o := .cells #[.int .i64 a2, .int .i64 x156001_1, .int .i64 x156002_1, .int .i64 x156003_1] 33 (0, 0)) (by (with_reducible repeat (first | refine blk_drewN ?_ _ | refine blk_drew ?_ | refine blk_alloc ?_ _)); exact BK155.out)) : gb157 ≠ gb155)); clear BK154; clear BK155; clear HB; have BK154 := n0_; have BK155 := n1_; have HB := n2_; have BK157 := n3_; have GW157 := n4_; have GE157 := n5_; have NB154_157 := n6_; have NB157_154 := n7_; have NB155_157 := n8_; have NB157_155 := n9_; clear n0_ n1_ n2_ n3_ n4_ n5_ n6_ n7_ n8_ n9_; clear hb hbox hg; have hnb16 := NB157_154.out; have hnc16 := NB154_157.out; have hnb17 := NB157_155.out; have hnc17 := NB155_157.out; have hcz18_0 : w15.cell? ⟨gb157, 0, none⟩ = some (.int .i64 0) := (blk_cell BK157.out 0).trans rfl; have hcz18_1 : w15.cell? ⟨gb157, 1, none⟩ = some (.int .i64 0) := (blk_cell BK157.out 1).trans rfl; have hcz18_2 : w15.cell? ⟨gb157, 2, none⟩ = some (.int .i64 0) := (blk_cell BK157.out 2).trans rfl; have hcz18_3 : w15.cell? ⟨gb157, 3, none⟩ = some (.int .i64 0) := (blk_cell BK157.out 3).trans rfl; have hcz18_4 : w15.cell? ⟨gb157, 4, none⟩ = some (.int .i64 0) := (blk_cell BK157.out 4).trans rfl; have hcz18_5 : w15.cell? ⟨gb157, 5, none⟩ = some (.int .i64 0) := (blk_cell BK157.out 5).trans rfl; have hcz18_6 : w15.cell? ⟨gb157, 6, none⟩ = some (.int .i64 0) := (blk_cell BK157.out 6).trans rfl; have hfz18_0 := blk_frozen BK157.out 0; have hfz18_1 := blk_frozen BK157.out 1; have hfz18_2 := blk_frozen BK157.out 2; have hfz18_3 := blk_frozen BK157.out 3; have hfz18_4 := blk_frozen BK157.out 4; have hfz18_5 := blk_frozen BK157.out 5; have hfz18_6 := blk_frozen BK157.out 6))
              repeat (go_quiet (first | ((with_reducible refine gate_dst (N := 13) rfl ?_); refine box_event ?hg (N := 13) ?hd (cs := #[.int .i64 0, .int .i64 0, .int .i64 0, .int .i64 0, .int .i64 0, .int .i64 0, .int .i64 0]) (t := 37) ?hr ?_; (case hd => rfl); (case hg => rfl); (case hr => first | (go_simp; done) | (go_simp; rfl)); intro gb157 hg w15 hbox hb; have n0_ := Aside0.mk (blk_below (g := gb154) (o := .cells #[.int .i64 0, .int .i64 0, .int .i64 0, .int .i64 0] 33 (0, 0)) (by (with_reducible repeat (first | refine blk_drewN ?_ _ | refine blk_drew ?_ | refine blk_alloc ?_ _)); exact BK154.out) hb); have n1_ := Aside0.mk (blk_below (g := gb155) (o := .cells #[.int .i64 a2, .int .i64 x156001_1, .int .i64 x156002_1, .int .i64 x156003_1] 33 (0, 0)) (by (with_reducible repeat (first | refine blk_drewN ?_ _ | refine blk_drew ?_ | refine blk_alloc ?_ _)); exact BK155.out) hb); have n2_ := Aside0.mk (below_step (by repeat (first | (with_reducible first | exact HB.out | apply below_alloc | apply pw_below_drewN | apply below_drew1 | refine below_set ?_ GE154.out | refine below_set ?_ GE155.out) | exact HB.out)) hb); have n3_ := Aside0.mk (hbox); have n4_ := Aside0.mk ((by rw [hg]; exact (below_size (by repeat (first | (with_reducible first | exact HB.out | apply below_alloc | apply pw_below_drewN | apply below_drew1 | refine below_set ?_ GE154.out | refine below_set ?_ GE155.out) | exact HB.out))) : w.heap.size ≤ gb157)); have n5_ := Aside0.mk ((by rw [hg]; exact (below_size (by repeat (first | (with_reducible first | exact HB.out | apply below_alloc | apply pw_below_drewN | apply below_drew1 | refine below_set ?_ GE154.out | refine below_set ?_ GE155.out) | exact HB.out))) : w.heap.size ≤ gb157)); have n6_ := Aside0.mk ((by rw [hg]; exact Nat.ne_of_lt (blk_lt (g := gb154) (o := .cells #[.int .i64 0, .int .i64 0, .int .i64 0, .int .i64 0] 33 (0, 0)) (by (with_reducible repeat (first | refine blk_drewN ?_ _ | refine blk_drew ?_ | refine blk_alloc ?_ _)); exact BK154.out)) : gb154 ≠ gb157)); have n7_ := Aside0.mk ((by rw [hg]; exact Nat.ne_of_gt (blk_lt (g := gb154) (o := .cells #[.int .i64 0, .int .i64 0, .int .i64 0, .int .i64 0] 33 (0, 0)) (by (with_reducible repeat (first | refine blk_drewN ?_ _ | refine blk_drew ?_ | refine blk_alloc ?_ _)); exact BK154.out)) : gb157 ≠ gb154)); have n8_ := Aside0.mk ((by rw [hg]; exact Nat.ne_of_lt (blk_lt (g := gb155) (o := .cells #[.int .i64 a2, .int .i64 x156001_1, .int .i64 x156002_1, .int .i64 x156003_1] 33 (0, 0)) (by (with_reducible repeat (first | refine blk_drewN ?_ _ | refine blk_drew ?_ | refine blk_alloc ?_ _)); exact BK155.out)) : gb155 ≠ gb157)); have n9_ := Aside0.mk ((by rw [hg]; exact Nat.ne_of_gt (blk_lt (g := gb155) (o := .cells #[.int .i64 a2, .int .i64 x156001_1, .int .i64 x156002_1, .int .i64 x156003_1] 33 (0, 0)) (by (with_reducible repeat (first | refine blk_drewN ?_ _ | refine blk_drew ?_ | refine blk_alloc ?_ _)); exact BK155.out)) : gb157 ≠ gb155)); clear BK154; clear BK155; clear HB; have BK154 := n0_; have BK155 := n1_; have HB := n2_; have BK157 := n3_; have GW157 := n4_; have GE157 := n5_; have NB154_157 := n6_; have NB157_154 := n7_; have NB155_157 := n8_; have NB157_155 := n9_; clear n0_ n1_ n2_ n3_ n4_ n5_ n6_ n7_ n8_ n9_; clear hb hbox hg; have hnb16 := NB157_154.out; have hnc16 := NB154_157.out; have hnb17 := NB157_155.out; have hnc17 := NB155_157.out; have hcz18_0 : w15.cell? ⟨gb157, 0, none⟩ = some (.int .i64 0) := (blk_cell BK157.out 0).trans rfl; have hcz18_1 : w15.cell? ⟨gb157, 1, none⟩ = some (.int .i64 0) := (blk_cell BK157.out 1).trans rfl; have hcz18_2 : w15.cell? ⟨gb157, 2, none⟩ = some (.int .i64 0) := (blk_cell BK157.out 2).trans rfl; have hcz18_3 : w15.cell? ⟨gb157, 3, none⟩ = some (.int .i64 0) := (blk_cell BK157.out 3).trans rfl; have hcz18_4 : w15.cell? ⟨gb157, 4, none⟩ = some (.int .i64 0) := (blk_cell BK157.out 4).trans rfl; have hcz18_5 : w15.cell? ⟨gb157, 5, none⟩ = some (.int .i64 0) := (blk_cell BK157.out 5).trans rfl; have hcz18_6 : w15.cell? ⟨gb157, 6, none⟩ = some (.int .i64 0) := (blk_cell BK157.out 6).trans rfl; have hfz18_0 := blk_frozen BK157.out 0; have hfz18_1 := blk_frozen BK157.out 1; have hfz18_2 := blk_frozen BK157.out 2; have hfz18_3 := blk_frozen BK157.out 3; have hfz18_4 := blk_frozen BK157.out 4; have hfz18_5 := blk_frozen BK157.out 5; have hfz18_6 := blk_frozen BK157.out 6)); go_upto_region 6 with (first | ((with_reducible refine gate_dst (N := 13) rfl ?_); refine box_event ?hg (N := 13) ?hd (cs := #[.int .i64 0, .int .i64 0, .int .i64 0, .int .i64 0, .int .i64 0, .int .i64 0, .int .i64 0]) (t := 37) ?hr ?_; (case hd => rfl); (case hg => rfl); (case hr => first | (go_simp; done) | (go_simp; rfl)); intro gb157 hg w15 hbox hb; have n0_ := Aside0.mk (blk_below (g := gb154) (o := .cells #[.int .i64 0, .int .i64 0, .int .i64 0, .int .i64 0] 33 (0, 0)) (by (with_reducible repeat (first | refine blk_drewN ?_ _ | refine blk_drew ?_ | refine blk_alloc ?_ _)); exact BK154.out) hb); have n1_ := Aside0.mk (blk_below (g := gb155) (o := .cells #[.int .i64 a2, .int .i64 x156001_1, .int .i64 x156002_1, .int .i64 x156003_1] 33 (0, 0)) (by (with_reducible repeat (first | refine blk_drewN ?_ _ | refine blk_drew ?_ | refine blk_alloc ?_ _)); exact BK155.out) hb); have n2_ := Aside0.mk (below_step (by repeat (first | (with_reducible first | exact HB.out | apply below_alloc | apply pw_below_drewN | apply below_drew1 | refine below_set ?_ GE154.out | refine below_set ?_ GE155.out) | exact HB.out)) hb); have n3_ := Aside0.mk (hbox); have n4_ := Aside0.mk ((by rw [hg]; exact (below_size (by repeat (first | (with_reducible first | exact HB.out | apply below_alloc | apply pw_below_drewN | apply below_drew1 | refine below_set ?_ GE154.out | refine below_set ?_ GE155.out) | exact HB.out))) : w.heap.size ≤ gb157)); have n5_ := Aside0.mk ((by rw [hg]; exact (below_size (by repeat (first | (with_reducible first | exact HB.out | apply below_alloc | apply pw_below_drewN | apply below_drew1 | refine below_set ?_ GE154.out | refine below_set ?_ GE155.out) | exact HB.out))) : w.heap.size ≤ gb157)); have n6_ := Aside0.mk ((by rw [hg]; exact Nat.ne_of_lt (blk_lt (g := gb154) (o := .cells #[.int .i64 0, .int .i64 0, .int .i64 0, .int .i64 0] 33 (0, 0)) (by (with_reducible repeat (first | refine blk_drewN ?_ _ | refine blk_drew ?_ | refine blk_alloc ?_ _)); exact BK154.out)) : gb154 ≠ gb157)); have n7_ := Aside0.mk ((by rw [hg]; exact Nat.ne_of_gt (blk_lt (g := gb154) (o := .cells #[.int .i64 0, .int .i64 0, .int .i64 0, .int .i64 0] 33 (0, 0)) (by (with_reducible repeat (first | refine blk_drewN ?_ _ | refine blk_drew ?_ | refine blk_alloc ?_ _)); exact BK154.out)) : gb157 ≠ gb154)); have n8_ := Aside0.mk ((by rw [hg]; exact Nat.ne_of_lt (blk_lt (g := gb155) (o := .cells #[.int .i64 a2, .int .i64 x156001_1, .int .i64 x156002_1, .int .i64 x156003_1] 33 (0, 0)) (by (with_reducible repeat (first | refine blk_drewN ?_ _ | refine blk_drew ?_ | refine blk_alloc ?_ _)); exact BK155.out)) : gb155 ≠ gb157)); have n9_ := Aside0.mk ((by rw [hg]; exact Nat.ne_of_gt (blk_lt (g := gb155) (o := .cells #[.int .i64 a2, .int .i64 x156001_1, .int .i64 x156002_1, .int .i64 x156003_1] 33 (0, 0)) (by (with_reducible repeat (first | refine blk_drewN ?_ _ | refine blk_drew ?_ | refine blk_alloc ?_ _)); exact BK155.out)) : gb157 ≠ gb155)); clear BK154; clear BK155; clear HB; have BK154 := n0_; have BK155 := n1_; have HB := n2_; have BK157 := n3_; have GW157 := n4_; have GE157 := n5_; have NB154_157 := n6_; have NB157_154 := n7_; have NB155_157 := n8_; have NB157_155 := n9_; clear n0_ n1_ n2_ n3_ n4_ n5_ n6_ n7_ n8_ n9_; clear hb hbox hg; have hnb16 := NB157_154.out; have hnc16 := NB154_157.out; have hnb17 := NB157_155.out; have hnc17 := NB155_157.out; have hcz18_0 : w15.cell? ⟨gb157, 0, none⟩ = some (.int .i64 0) := (blk_cell BK157.out 0).trans rfl; have hcz18_1 : w15.cell? ⟨gb157, 1, none⟩ = some (.int .i64 0) := (blk_cell BK157.out 1).trans rfl; have hcz18_2 : w15.cell? ⟨gb157, 2, none⟩ = some (.int .i64 0) := (blk_cell BK157.out 2).trans rfl; have hcz18_3 : w15.cell? ⟨gb157, 3, none⟩ = some (.int .i64 0) := (blk_cell BK157.out 3).trans rfl; have hcz18_4 : w15.cell? ⟨gb157, 4, none⟩ = some (.int .i64 0) := (blk_cell BK157.out 4).trans rfl; have hcz18_5 : w15.cell? ⟨gb157, 5, none⟩ = some (.int .i64 0) := (blk_cell BK157.out 5).trans rfl; have hcz18_6 : w15.cell? ⟨gb157, 6, none⟩ = some (.int .i64 0) := (blk_cell BK157.out 6).trans rfl; have hfz18_0 := blk_frozen BK157.out 0; have hfz18_1 := blk_frozen BK157.out 1; have hfz18_2 := blk_frozen BK157.out 2; have hfz18_3 := blk_frozen BK157.out 3; have hfz18_4 := blk_frozen BK157.out 4; have hfz18_5 := blk_frozen BK157.out 5; have hfz18_6 := blk_frozen BK157.out 6)))
              (try simp only [Act.put, List.setIfInBounds_toArray, List.set_cons_zero, List.set_cons_succ])
              go_cut [35] (fun v35 wc => ∃ (kq : Nat) (x35_13 : Bool), v35 = .bool x35_13 ∧ Aside0 (chancerylaw3_stateOf.j1 kq l1 a2 a3 a4 x19_1 l0 (l0.length : Int) x19_1 x35_13 a2 x156001_1 x156002_1 x156003_1 ((rd_T37 l0 x19_1).f0) ((rd_T37 l0 x19_1).f1) ((rd_T37 l0 x19_1).f2) ((rd_T37 l0 x19_1).f3) ((rd_T37 l0 x19_1).f4) ((rd_T37 l0 x19_1).f5) ((rd_T37 l0 x19_1).f6) = some (r1, r2, r3, r4)) ∧ Aside0 (kq ≤ k1) ∧ Aside0 (wc.heap[gb154]? = some (.cells #[.int .i64 0, .int .i64 0, .int .i64 0, .int .i64 0] 33 (0, 0))) ∧ Aside0 (wc.heap[gb155]? = some (.cells #[.int .i64 a2, .int .i64 x156001_1, .int .i64 x156002_1, .int .i64 x156003_1] 33 (0, 0))) ∧ Aside0 (wc.heap[gb157]? = some (.cells #[.int .i64 ((rd_T37 l0 x19_1).f0), .int .i64 ((rd_T37 l0 x19_1).f1), .int .i64 ((rd_T37 l0 x19_1).f2), .int .i64 ((rd_T37 l0 x19_1).f3), .int .i64 ((rd_T37 l0 x19_1).f4), .int .i64 ((rd_T37 l0 x19_1).f5), .int .i64 ((rd_T37 l0 x19_1).f6)] 37 (0, 0))) ∧ Aside0 (Below w.heap.size w wc))
              case first =>
                have H := HC14.out
                clear HC14
                by_cases c19 : ((rd_T37 l0 x19_1).f1) = 2
                · rw [if_pos c19] at H
                  have c19b0 : (((rd_T37 l0 x19_1).f1) == 2) = true := beq_iff_eq.mpr c19
                  have c19b1 : (((rd_T37 l0 x19_1).f1) != 2) = false := bne_eq_false_iff_eq.mpr c19
                  clear c19
                  (first | rw [c19b0] | (simp only [i64_w, i32_w]; rw [c19b0]) | skip)
                  have H' := Aside0.mk H
                  clear H
                  have hnb20 := NB157_154.out
                  have hnc20 := NB154_157.out
                  have hnb21 := NB157_155.out
                  have hnc21 := NB155_157.out
                  have hcz22_0 : w15.cell? ⟨gb157, 0, none⟩ = some (.int .i64 0) := (blk_cell BK157.out 0).trans rfl
                  have hcz22_1 : w15.cell? ⟨gb157, 1, none⟩ = some (.int .i64 0) := (blk_cell BK157.out 1).trans rfl
                  have hcz22_2 : w15.cell? ⟨gb157, 2, none⟩ = some (.int .i64 0) := (blk_cell BK157.out 2).trans rfl
                  have hcz22_3 : w15.cell? ⟨gb157, 3, none⟩ = some (.int .i64 0) := (blk_cell BK157.out 3).trans rfl
                  have hcz22_4 : w15.cell? ⟨gb157, 4, none⟩ = some (.int .i64 0) := (blk_cell BK157.out 4).trans rfl
                  have hcz22_5 : w15.cell? ⟨gb157, 5, none⟩ = some (.int .i64 0) := (blk_cell BK157.out 5).trans rfl
                  have hcz22_6 : w15.cell? ⟨gb157, 6, none⟩ = some (.int .i64 0) := (blk_cell BK157.out 6).trans rfl
                  have hfz22_0 := blk_frozen BK157.out 0
                  have hfz22_1 := blk_frozen BK157.out 1
                  have hfz22_2 := blk_frozen BK157.out 2
                  have hfz22_3 := blk_frozen BK157.out 3
                  have hfz22_4 := blk_frozen BK157.out 4
                  have hfz22_5 := blk_frozen BK157.out 5
                  have hfz22_6 := blk_frozen BK157.out 6
                  go_wp2
                  repeat (go_quiet (fail); try go_wp2)
                  go_meet
                  case rel => exact ⟨_, (false), (by first | rfl | (simp; done) | (simp [*]; done)), H', ⟨by have := HK1.out; first | omega | exact Nat.le_refl _⟩, ⟨by (with_reducible repeat (first | refine blk_drewN ?_ _ | refine blk_drew ?_ | refine blk_alloc ?_ _)); refine blk_far ?_ NB154_157.out _; (with_reducible repeat (first | refine blk_drewN ?_ _ | refine blk_drew ?_ | refine blk_alloc ?_ _)); refine blk_far ?_ NB154_157.out _; (with_reducible repeat (first | refine blk_drewN ?_ _ | refine blk_drew ?_ | refine blk_alloc ?_ _)); refine blk_far ?_ NB154_157.out _; (with_reducible repeat (first | refine blk_drewN ?_ _ | refine blk_drew ?_ | refine blk_alloc ?_ _)); refine blk_far ?_ NB154_157.out _; (with_reducible repeat (first | refine blk_drewN ?_ _ | refine blk_drew ?_ | refine blk_alloc ?_ _)); refine blk_far ?_ NB154_157.out _; (with_reducible repeat (first | refine blk_drewN ?_ _ | refine blk_drew ?_ | refine blk_alloc ?_ _)); refine blk_far ?_ NB154_157.out _; (with_reducible repeat (first | refine blk_drewN ?_ _ | refine blk_drew ?_ | refine blk_alloc ?_ _)); refine blk_far ?_ NB154_157.out _; (with_reducible repeat (first | refine blk_drewN ?_ _ | refine blk_drew ?_ | refine blk_alloc ?_ _)); exact BK154.out⟩, ⟨by (with_reducible repeat (first | refine blk_drewN ?_ _ | refine blk_drew ?_ | refine blk_alloc ?_ _)); refine blk_far ?_ NB155_157.out _; (with_reducible repeat (first | refine blk_drewN ?_ _ | refine blk_drew ?_ | refine blk_alloc ?_ _)); refine blk_far ?_ NB155_157.out _; (with_reducible repeat (first | refine blk_drewN ?_ _ | refine blk_drew ?_ | refine blk_alloc ?_ _)); refine blk_far ?_ NB155_157.out _; (with_reducible repeat (first | refine blk_drewN ?_ _ | refine blk_drew ?_ | refine blk_alloc ?_ _)); refine blk_far ?_ NB155_157.out _; (with_reducible repeat (first | refine blk_drewN ?_ _ | refine blk_drew ?_ | refine blk_alloc ?_ _)); refine blk_far ?_ NB155_157.out _; (with_reducible repeat (first | refine blk_drewN ?_ _ | refine blk_drew ?_ | refine blk_alloc ?_ _)); refine blk_far ?_ NB155_157.out _; (with_reducible repeat (first | refine blk_drewN ?_ _ | refine blk_drew ?_ | refine blk_alloc ?_ _)); refine blk_far ?_ NB155_157.out _; (with_reducible repeat (first | refine blk_drewN ?_ _ | refine blk_drew ?_ | refine blk_alloc ?_ _)); exact BK155.out⟩, ⟨by (with_reducible repeat (first | refine blk_drewN ?_ _ | refine blk_drew ?_ | refine blk_alloc ?_ _)); refine blk_put (cs := #[.int .i64 ((rd_T37 l0 x19_1).f0), .int .i64 ((rd_T37 l0 x19_1).f1), .int .i64 ((rd_T37 l0 x19_1).f2), .int .i64 ((rd_T37 l0 x19_1).f3), .int .i64 ((rd_T37 l0 x19_1).f4), .int .i64 ((rd_T37 l0 x19_1).f5), .int .i64 0]) ?_ 6 _ rfl; (with_reducible repeat (first | refine blk_drewN ?_ _ | refine blk_drew ?_ | refine blk_alloc ?_ _)); refine blk_put (cs := #[.int .i64 ((rd_T37 l0 x19_1).f0), .int .i64 ((rd_T37 l0 x19_1).f1), .int .i64 ((rd_T37 l0 x19_1).f2), .int .i64 ((rd_T37 l0 x19_1).f3), .int .i64 ((rd_T37 l0 x19_1).f4), .int .i64 0, .int .i64 0]) ?_ 5 _ rfl; (with_reducible repeat (first | refine blk_drewN ?_ _ | refine blk_drew ?_ | refine blk_alloc ?_ _)); refine blk_put (cs := #[.int .i64 ((rd_T37 l0 x19_1).f0), .int .i64 ((rd_T37 l0 x19_1).f1), .int .i64 ((rd_T37 l0 x19_1).f2), .int .i64 ((rd_T37 l0 x19_1).f3), .int .i64 0, .int .i64 0, .int .i64 0]) ?_ 4 _ rfl; (with_reducible repeat (first | refine blk_drewN ?_ _ | refine blk_drew ?_ | refine blk_alloc ?_ _)); refine blk_put (cs := #[.int .i64 ((rd_T37 l0 x19_1).f0), .int .i64 ((rd_T37 l0 x19_1).f1), .int .i64 ((rd_T37 l0 x19_1).f2), .int .i64 0, .int .i64 0, .int .i64 0, .int .i64 0]) ?_ 3 _ rfl; (with_reducible repeat (first | refine blk_drewN ?_ _ | refine blk_drew ?_ | refine blk_alloc ?_ _)); refine blk_put (cs := #[.int .i64 ((rd_T37 l0 x19_1).f0), .int .i64 ((rd_T37 l0 x19_1).f1), .int .i64 0, .int .i64 0, .int .i64 0, .int .i64 0, .int .i64 0]) ?_ 2 _ rfl; (with_reducible repeat (first | refine blk_drewN ?_ _ | refine blk_drew ?_ | refine blk_alloc ?_ _)); refine blk_put (cs := #[.int .i64 ((rd_T37 l0 x19_1).f0), .int .i64 0, .int .i64 0, .int .i64 0, .int .i64 0, .int .i64 0, .int .i64 0]) ?_ 1 _ rfl; (with_reducible repeat (first | refine blk_drewN ?_ _ | refine blk_drew ?_ | refine blk_alloc ?_ _)); refine blk_put (cs := #[.int .i64 0, .int .i64 0, .int .i64 0, .int .i64 0, .int .i64 0, .int .i64 0, .int .i64 0]) ?_ 0 _ rfl; (with_reducible repeat (first | refine blk_drewN ?_ _ | refine blk_drew ?_ | refine blk_alloc ?_ _)); exact BK157.out⟩, ⟨by repeat (first | (with_reducible first | exact HB.out | apply below_alloc | apply pw_below_drewN | apply below_drew1 | refine below_set ?_ GE154.out | refine below_set ?_ GE155.out | refine below_set ?_ GE157.out) | exact HB.out)⟩⟩
                · rw [if_neg c19] at H
                  have c19b0 : (((rd_T37 l0 x19_1).f1) == 2) = false := beq_eq_false_iff_ne.mpr c19
                  have c19b1 : (((rd_T37 l0 x19_1).f1) != 2) = true := bne_iff_ne.mpr c19
                  (first | rw [c19b0] | (simp only [i64_w, i32_w]; rw [c19b0]) | skip)
                  have H' := Aside0.mk H
                  clear H
                  have hnb23 := NB157_154.out
                  have hnc23 := NB154_157.out
                  have hnb24 := NB157_155.out
                  have hnc24 := NB155_157.out
                  have hcz25_0 : w15.cell? ⟨gb157, 0, none⟩ = some (.int .i64 0) := (blk_cell BK157.out 0).trans rfl
                  have hcz25_1 : w15.cell? ⟨gb157, 1, none⟩ = some (.int .i64 0) := (blk_cell BK157.out 1).trans rfl
                  have hcz25_2 : w15.cell? ⟨gb157, 2, none⟩ = some (.int .i64 0) := (blk_cell BK157.out 2).trans rfl
                  have hcz25_3 : w15.cell? ⟨gb157, 3, none⟩ = some (.int .i64 0) := (blk_cell BK157.out 3).trans rfl
                  have hcz25_4 : w15.cell? ⟨gb157, 4, none⟩ = some (.int .i64 0) := (blk_cell BK157.out 4).trans rfl
                  have hcz25_5 : w15.cell? ⟨gb157, 5, none⟩ = some (.int .i64 0) := (blk_cell BK157.out 5).trans rfl
                  have hcz25_6 : w15.cell? ⟨gb157, 6, none⟩ = some (.int .i64 0) := (blk_cell BK157.out 6).trans rfl
                  have hfz25_0 := blk_frozen BK157.out 0
                  have hfz25_1 := blk_frozen BK157.out 1
                  have hfz25_2 := blk_frozen BK157.out 2
                  have hfz25_3 := blk_frozen BK157.out 3
                  have hfz25_4 := blk_frozen BK157.out 4
                  have hfz25_5 := blk_frozen BK157.out 5
                  have hfz25_6 := blk_frozen BK157.out 6
                  have hnb26 := NB155_154.out
                  have hnc26 := NB154_155.out
                  have hcz27_0 : w15.cell? ⟨gb155, 0, none⟩ = some (.int .i64 a2) := (blk_cell BK155.out 0).trans rfl
                  have hcz27_1 : w15.cell? ⟨gb155, 1, none⟩ = some (.int .i64 x156001_1) := (blk_cell BK155.out 1).trans rfl
                  have hcz27_2 : w15.cell? ⟨gb155, 2, none⟩ = some (.int .i64 x156002_1) := (blk_cell BK155.out 2).trans rfl
                  have hcz27_3 : w15.cell? ⟨gb155, 3, none⟩ = some (.int .i64 x156003_1) := (blk_cell BK155.out 3).trans rfl
                  have hfz27_0 := blk_frozen BK155.out 0
                  have hfz27_1 := blk_frozen BK155.out 1
                  have hfz27_2 := blk_frozen BK155.out 2
                  have hfz27_3 := blk_frozen BK155.out 3
                  go_wp2
                  repeat (go_quiet (fail); try go_wp2)
                  go_meet
                  case rel => exact ⟨_, (decide (x156001_1 < 0)), (by first | rfl | (simp; done) | (simp [*]; done)), H', ⟨by have := HK1.out; first | omega | exact Nat.le_refl _⟩, ⟨by (with_reducible repeat (first | refine blk_drewN ?_ _ | refine blk_drew ?_ | refine blk_alloc ?_ _)); refine blk_far ?_ NB154_157.out _; (with_reducible repeat (first | refine blk_drewN ?_ _ | refine blk_drew ?_ | refine blk_alloc ?_ _)); refine blk_far ?_ NB154_157.out _; (with_reducible repeat (first | refine blk_drewN ?_ _ | refine blk_drew ?_ | refine blk_alloc ?_ _)); refine blk_far ?_ NB154_157.out _; (with_reducible repeat (first | refine blk_drewN ?_ _ | refine blk_drew ?_ | refine blk_alloc ?_ _)); refine blk_far ?_ NB154_157.out _; (with_reducible repeat (first | refine blk_drewN ?_ _ | refine blk_drew ?_ | refine blk_alloc ?_ _)); refine blk_far ?_ NB154_157.out _; (with_reducible repeat (first | refine blk_drewN ?_ _ | refine blk_drew ?_ | refine blk_alloc ?_ _)); refine blk_far ?_ NB154_157.out _; (with_reducible repeat (first | refine blk_drewN ?_ _ | refine blk_drew ?_ | refine blk_alloc ?_ _)); refine blk_far ?_ NB154_157.out _; (with_reducible repeat (first | refine blk_drewN ?_ _ | refine blk_drew ?_ | refine blk_alloc ?_ _)); exact BK154.out⟩, ⟨by (with_reducible repeat (first | refine blk_drewN ?_ _ | refine blk_drew ?_ | refine blk_alloc ?_ _)); refine blk_far ?_ NB155_157.out _; (with_reducible repeat (first | refine blk_drewN ?_ _ | refine blk_drew ?_ | refine blk_alloc ?_ _)); refine blk_far ?_ NB155_157.out _; (with_reducible repeat (first | refine blk_drewN ?_ _ | refine blk_drew ?_ | refine blk_alloc ?_ _)); refine blk_far ?_ NB155_157.out _; (with_reducible repeat (first | refine blk_drewN ?_ _ | refine blk_drew ?_ | refine blk_alloc ?_ _)); refine blk_far ?_ NB155_157.out _; (with_reducible repeat (first | refine blk_drewN ?_ _ | refine blk_drew ?_ | refine blk_alloc ?_ _)); refine blk_far ?_ NB155_157.out _; (with_reducible repeat (first | refine blk_drewN ?_ _ | refine blk_drew ?_ | refine blk_alloc ?_ _)); refine blk_far ?_ NB155_157.out _; (with_reducible repeat (first | refine blk_drewN ?_ _ | refine blk_drew ?_ | refine blk_alloc ?_ _)); refine blk_far ?_ NB155_157.out _; (with_reducible repeat (first | refine blk_drewN ?_ _ | refine blk_drew ?_ | refine blk_alloc ?_ _)); exact BK155.out⟩, ⟨by (with_reducible repeat (first | refine blk_drewN ?_ _ | refine blk_drew ?_ | refine blk_alloc ?_ _)); refine blk_put (cs := #[.int .i64 ((rd_T37 l0 x19_1).f0), .int .i64 ((rd_T37 l0 x19_1).f1), .int .i64 ((rd_T37 l0 x19_1).f2), .int .i64 ((rd_T37 l0 x19_1).f3), .int .i64 ((rd_T37 l0 x19_1).f4), .int .i64 ((rd_T37 l0 x19_1).f5), .int .i64 0]) ?_ 6 _ rfl; (with_reducible repeat (first | refine blk_drewN ?_ _ | refine blk_drew ?_ | refine blk_alloc ?_ _)); refine blk_put (cs := #[.int .i64 ((rd_T37 l0 x19_1).f0), .int .i64 ((rd_T37 l0 x19_1).f1), .int .i64 ((rd_T37 l0 x19_1).f2), .int .i64 ((rd_T37 l0 x19_1).f3), .int .i64 ((rd_T37 l0 x19_1).f4), .int .i64 0, .int .i64 0]) ?_ 5 _ rfl; (with_reducible repeat (first | refine blk_drewN ?_ _ | refine blk_drew ?_ | refine blk_alloc ?_ _)); refine blk_put (cs := #[.int .i64 ((rd_T37 l0 x19_1).f0), .int .i64 ((rd_T37 l0 x19_1).f1), .int .i64 ((rd_T37 l0 x19_1).f2), .int .i64 ((rd_T37 l0 x19_1).f3), .int .i64 0, .int .i64 0, .int .i64 0]) ?_ 4 _ rfl; (with_reducible repeat (first | refine blk_drewN ?_ _ | refine blk_drew ?_ | refine blk_alloc ?_ _)); refine blk_put (cs := #[.int .i64 ((rd_T37 l0 x19_1).f0), .int .i64 ((rd_T37 l0 x19_1).f1), .int .i64 ((rd_T37 l0 x19_1).f2), .int .i64 0, .int .i64 0, .int .i64 0, .int .i64 0]) ?_ 3 _ rfl; (with_reducible repeat (first | refine blk_drewN ?_ _ | refine blk_drew ?_ | refine blk_alloc ?_ _)); refine blk_put (cs := #[.int .i64 ((rd_T37 l0 x19_1).f0), .int .i64 ((rd_T37 l0 x19_1).f1), .int .i64 0, .int .i64 0, .int .i64 0, .int .i64 0, .int .i64 0]) ?_ 2 _ rfl; (with_reducible repeat (first | refine blk_drewN ?_ _ | refine blk_drew ?_ | refine blk_alloc ?_ _)); refine blk_put (cs := #[.int .i64 ((rd_T37 l0 x19_1).f0), .int .i64 0, .int .i64 0, .int .i64 0, .int .i64 0, .int .i64 0, .int .i64 0]) ?_ 1 _ rfl; (with_reducible repeat (first | refine blk_drewN ?_ _ | refine blk_drew ?_ | refine blk_alloc ?_ _)); refine blk_put (cs := #[.int .i64 0, .int .i64 0, .int .i64 0, .int .i64 0, .int .i64 0, .int .i64 0, .int .i64 0]) ?_ 0 _ rfl; (with_reducible repeat (first | refine blk_drewN ?_ _ | refine blk_drew ?_ | refine blk_alloc ?_ _)); exact BK157.out⟩, ⟨by repeat (first | (with_reducible first | exact HB.out | apply below_alloc | apply pw_below_drewN | apply below_drew1 | refine below_set ?_ GE154.out | refine below_set ?_ GE155.out | refine below_set ?_ GE157.out) | exact HB.out)⟩⟩
              case rest =>
                clear HC14
                try clear c1
                try clear p1
                try clear q1
                try clear hx1
                try clear c2
                try clear p2
                try clear c8
                try clear c9
                try clear c10
                try clear c10b0
                try clear c11
                try clear c11b0
                try clear c12
                try clear c12b0
                try clear c13
                try clear c13b0
                try clear c13b1
                try clear p15
                try clear q15
                try clear hx15
                try clear c16
                try clear c17
                try clear c19
                try clear c19b0
                try clear c19b1
                try clear c20
                try clear c21
                try clear c23
                try clear c24
                try clear c26
                try clear hcz18_0
                try clear hcz18_1
                try clear hcz18_2
                try clear hcz18_3
                try clear hcz18_4
                try clear hcz18_5
                try clear hcz18_6
                try clear hcz22_0
                try clear hcz22_1
                try clear hcz22_2
                try clear hcz22_3
                try clear hcz22_4
                try clear hcz22_5
                try clear hcz22_6
                try clear hcz25_0
                try clear hcz25_1
                try clear hcz25_2
                try clear hcz25_3
                try clear hcz25_4
                try clear hcz25_5
                try clear hcz25_6
                try clear hcz27_0
                try clear hcz27_1
                try clear hcz27_2
                try clear hcz27_3
                try clear hcz9_0
                try clear hcz9_1
                try clear hcz9_2
                try clear hcz9_3
                try clear hfz18_0
                try clear hfz18_1
                try clear hfz18_2
                try clear hfz18_3
                try clear hfz18_4
                try clear hfz18_5
                try clear hfz18_6
                try clear hfz22_0
                try clear hfz22_1
                try clear hfz22_2
                try clear hfz22_3
                try clear hfz22_4
                try clear hfz22_5
                try clear hfz22_6
                try clear hfz25_0
                try clear hfz25_1
                try clear hfz25_2
                try clear hfz25_3
                try clear hfz25_4
                try clear hfz25_5
                try clear hfz25_6
                try clear hfz27_0
                try clear hfz27_1
                try clear hfz27_2
                try clear hfz27_3
                try clear hfz9_0
                try clear hfz9_1
                try clear hfz9_2
                try clear hfz9_3
                try clear hx156_0
                try clear hx156_1
                try clear hx156_2
                try clear hx156_3
                try clear hx156_4
                try clear hx156_5
                try clear hx156_6
                try clear p156
                try clear p2
                try clear q156
                obtain ⟨kq, x35_13, rfl, HA, HJ13, BK154, BK155, BK157, HB⟩ := hcut
                cases kq with
                | zero => exact absurd HA.out (by simp [chancerylaw3_stateOf.j1])
                | succ kj13 =>
                  have H := HA.out
                  clear HA
                  simp only [chancerylaw3_stateOf.j1] at H
                  have HC28 := Aside0.mk H
                  clear H
                  go_upto_if 35 with (fail)
                  repeat (go_quiet (fail); go_upto_if 35 with (fail))
                  go_cut [] (fun wc => ∃ (kq : Nat) (x156001_27 : Int), Aside0 (chancerylaw3_stateOf.j2 kq l1 a2 a3 a4 x19_1 l0 (l0.length : Int) x19_1 a2 x156001_27 x156002_1 x156003_1 ((rd_T37 l0 x19_1).f0) ((rd_T37 l0 x19_1).f1) ((rd_T37 l0 x19_1).f2) ((rd_T37 l0 x19_1).f3) ((rd_T37 l0 x19_1).f4) ((rd_T37 l0 x19_1).f5) ((rd_T37 l0 x19_1).f6) = some (r1, r2, r3, r4)) ∧ Aside0 (kq ≤ kj13) ∧ Aside0 (wc.heap[gb154]? = some (.cells #[.int .i64 0, .int .i64 0, .int .i64 0, .int .i64 0] 33 (0, 0))) ∧ Aside0 (wc.heap[gb155]? = some (.cells #[.int .i64 a2, .int .i64 x156001_27, .int .i64 x156002_1, .int .i64 x156003_1] 33 (0, 0))) ∧ Aside0 (wc.heap[gb157]? = some (.cells #[.int .i64 ((rd_T37 l0 x19_1).f0), .int .i64 ((rd_T37 l0 x19_1).f1), .int .i64 ((rd_T37 l0 x19_1).f2), .int .i64 ((rd_T37 l0 x19_1).f3), .int .i64 ((rd_T37 l0 x19_1).f4), .int .i64 ((rd_T37 l0 x19_1).f5), .int .i64 ((rd_T37 l0 x19_1).f6)] 37 (0, 0))) ∧ Aside0 (Below w.heap.size w wc))
                  case first =>
                    have H := HC28.out
                    clear HC28
                    by_cases c29 : x35_13 = true
                    · subst c29
                      have H1 : (chancerylaw3_stateOf.j2 kj13 l1 a2 a3 a4 x19_1 l0 (l0.length : Int) x19_1 a2 (wrap64 (1000 * ((rd_T37 l0 x19_1).f1))) x156002_1 x156003_1 ((rd_T37 l0 x19_1).f0) ((rd_T37 l0 x19_1).f1) ((rd_T37 l0 x19_1).f2) ((rd_T37 l0 x19_1).f3) ((rd_T37 l0 x19_1).f4) ((rd_T37 l0 x19_1).f5) ((rd_T37 l0 x19_1).f6)) = some (r1, r2, r3, r4) := by rw [if_pos rfl] at H; exact H
                      clear H
                      have H := H1
                      clear H1
                      have H' := Aside0.mk H
                      clear H
                      have hnb30 := NB157_154.out
                      have hnc30 := NB154_157.out
                      have hnb31 := NB157_155.out
                      have hnc31 := NB155_157.out
                      have hcz32_0 : wc.cell? ⟨gb157, 0, none⟩ = some (.int .i64 ((rd_T37 l0 x19_1).f0)) := (blk_cell BK157.out 0).trans rfl
                      have hcz32_1 : wc.cell? ⟨gb157, 1, none⟩ = some (.int .i64 ((rd_T37 l0 x19_1).f1)) := (blk_cell BK157.out 1).trans rfl
                      have hcz32_2 : wc.cell? ⟨gb157, 2, none⟩ = some (.int .i64 ((rd_T37 l0 x19_1).f2)) := (blk_cell BK157.out 2).trans rfl
                      have hcz32_3 : wc.cell? ⟨gb157, 3, none⟩ = some (.int .i64 ((rd_T37 l0 x19_1).f3)) := (blk_cell BK157.out 3).trans rfl
                      have hcz32_4 : wc.cell? ⟨gb157, 4, none⟩ = some (.int .i64 ((rd_T37 l0 x19_1).f4)) := (blk_cell BK157.out 4).trans rfl
                      have hcz32_5 : wc.cell? ⟨gb157, 5, none⟩ = some (.int .i64 ((rd_T37 l0 x19_1).f5)) := (blk_cell BK157.out 5).trans rfl
                      have hcz32_6 : wc.cell? ⟨gb157, 6, none⟩ = some (.int .i64 ((rd_T37 l0 x19_1).f6)) := (blk_cell BK157.out 6).trans rfl
                      have hfz32_0 := blk_frozen BK157.out 0
                      have hfz32_1 := blk_frozen BK157.out 1
                      have hfz32_2 := blk_frozen BK157.out 2
                      have hfz32_3 := blk_frozen BK157.out 3
                      have hfz32_4 := blk_frozen BK157.out 4
                      have hfz32_5 := blk_frozen BK157.out 5
                      have hfz32_6 := blk_frozen BK157.out 6
                      have hnb33 := NB155_154.out
                      have hnc33 := NB154_155.out
                      have hcz34_0 : wc.cell? ⟨gb155, 0, none⟩ = some (.int .i64 a2) := (blk_cell BK155.out 0).trans rfl
                      have hcz34_1 : wc.cell? ⟨gb155, 1, none⟩ = some (.int .i64 x156001_1) := (blk_cell BK155.out 1).trans rfl
                      have hcz34_2 : wc.cell? ⟨gb155, 2, none⟩ = some (.int .i64 x156002_1) := (blk_cell BK155.out 2).trans rfl
                      have hcz34_3 : wc.cell? ⟨gb155, 3, none⟩ = some (.int .i64 x156003_1) := (blk_cell BK155.out 3).trans rfl
                      have hfz34_0 := blk_frozen BK155.out 0
                      have hfz34_1 := blk_frozen BK155.out 1
                      have hfz34_2 := blk_frozen BK155.out 2
                      have hfz34_3 := blk_frozen BK155.out 3
                      go_wp2
                      repeat (go_quiet (fail); try go_wp2)
                      go_meet
                      case rel => exact ⟨_, (wrap64 (1000 * ((rd_T37 l0 x19_1).f1))), H', ⟨by have := HK1.out; have := HJ13.out; first | omega | exact Nat.le_refl _⟩, ⟨by (with_reducible repeat (first | refine blk_drewN ?_ _ | refine blk_drew ?_ | refine blk_alloc ?_ _)); refine blk_far ?_ NB154_155.out _; (with_reducible repeat (first | refine blk_drewN ?_ _ | refine blk_drew ?_ | refine blk_alloc ?_ _)); exact BK154.out⟩, ⟨by (with_reducible repeat (first | refine blk_drewN ?_ _ | refine blk_drew ?_ | refine blk_alloc ?_ _)); refine blk_put (cs := #[.int .i64 a2, .int .i64 x156001_1, .int .i64 x156002_1, .int .i64 x156003_1]) ?_ 1 _ rfl; (with_reducible repeat (first | refine blk_drewN ?_ _ | refine blk_drew ?_ | refine blk_alloc ?_ _)); exact BK155.out⟩, ⟨by (with_reducible repeat (first | refine blk_drewN ?_ _ | refine blk_drew ?_ | refine blk_alloc ?_ _)); refine blk_far ?_ NB157_155.out _; (with_reducible repeat (first | refine blk_drewN ?_ _ | refine blk_drew ?_ | refine blk_alloc ?_ _)); exact BK157.out⟩, ⟨by repeat (first | (with_reducible first | exact HB.out | apply below_alloc | apply pw_below_drewN | apply below_drew1 | refine below_set ?_ GE154.out | refine below_set ?_ GE155.out | refine below_set ?_ GE157.out) | exact HB.out)⟩⟩
                    · replace c29 := Bool.eq_false_iff.mpr c29
                      subst c29
                      have H1 : (chancerylaw3_stateOf.j2 kj13 l1 a2 a3 a4 x19_1 l0 (l0.length : Int) x19_1 a2 x156001_1 x156002_1 x156003_1 ((rd_T37 l0 x19_1).f0) ((rd_T37 l0 x19_1).f1) ((rd_T37 l0 x19_1).f2) ((rd_T37 l0 x19_1).f3) ((rd_T37 l0 x19_1).f4) ((rd_T37 l0 x19_1).f5) ((rd_T37 l0 x19_1).f6)) = some (r1, r2, r3, r4) := by rw [if_neg (show ¬ (false = true) by decide)] at H; exact H
                      clear H
                      have H := H1
                      clear H1
                      have H' := Aside0.mk H
                      clear H
                      go_wp2
                      repeat (go_quiet (fail); try go_wp2)
                      go_meet
                      case rel => exact ⟨_, (x156001_1), H', ⟨by have := HK1.out; have := HJ13.out; first | omega | exact Nat.le_refl _⟩, ⟨by (with_reducible repeat (first | refine blk_drewN ?_ _ | refine blk_drew ?_ | refine blk_alloc ?_ _)); exact BK154.out⟩, ⟨by (with_reducible repeat (first | refine blk_drewN ?_ _ | refine blk_drew ?_ | refine blk_alloc ?_ _)); exact BK155.out⟩, ⟨by (with_reducible repeat (first | refine blk_drewN ?_ _ | refine blk_drew ?_ | refine blk_alloc ?_ _)); exact BK157.out⟩, ⟨by repeat (first | (with_reducible first | exact HB.out | apply below_alloc | apply pw_below_drewN | apply below_drew1 | refine below_set ?_ GE154.out | refine below_set ?_ GE155.out | refine below_set ?_ GE157.out) | exact HB.out)⟩⟩
                  case rest =>
                    clear HC28
                    try clear c1
                    try clear p1
                    try clear q1
                    try clear hx1
                    try clear c2
                    try clear p2
                    try clear c3
                    try clear p6
                    try clear c8
                    try clear c9
                    try clear c10
                    try clear c10b0
                    try clear c11
                    try clear c11b0
                    try clear c12
                    try clear c12b0
                    try clear c13
                    try clear c13b0
                    try clear c13b1
                    try clear p15
                    try clear q15
                    try clear hx15
                    try clear c16
                    try clear c17
                    try clear c19
                    try clear c19b0
                    try clear c19b1
                    try clear c20
                    try clear c21
                    try clear c23
                    try clear c24
                    try clear c26
                    try clear c29
                    try clear c30
                    try clear c31
                    try clear c33
                    try clear hcz18_0
                    try clear hcz18_1
                    try clear hcz18_2
                    try clear hcz18_3
                    try clear hcz18_4
                    try clear hcz18_5
                    try clear hcz18_6
                    try clear hcz22_0
                    try clear hcz22_1
                    try clear hcz22_2
                    try clear hcz22_3
                    try clear hcz22_4
                    try clear hcz22_5
                    try clear hcz22_6
                    try clear hcz25_0
                    try clear hcz25_1
                    try clear hcz25_2
                    try clear hcz25_3
                    try clear hcz25_4
                    try clear hcz25_5
                    try clear hcz25_6
                    try clear hcz27_0
                    try clear hcz27_1
                    try clear hcz27_2
                    try clear hcz27_3
                    try clear hcz32_0
                    try clear hcz32_1
                    try clear hcz32_2
                    try clear hcz32_3
                    try clear hcz32_4
                    try clear hcz32_5
                    try clear hcz32_6
                    try clear hcz34_0
                    try clear hcz34_1
                    try clear hcz34_2
                    try clear hcz34_3
                    try clear hcz9_0
                    try clear hcz9_1
                    try clear hcz9_2
                    try clear hcz9_3
                    try clear hfz18_0
                    try clear hfz18_1
                    try clear hfz18_2
                    try clear hfz18_3
                    try clear hfz18_4
                    try clear hfz18_5
                    try clear hfz18_6
                    try clear hfz22_0
                    try clear hfz22_1
                    try clear hfz22_2
                    try clear hfz22_3
                    try clear hfz22_4
                    try clear hfz22_5
                    try clear hfz22_6
                    try clear hfz25_0
                    try clear hfz25_1
                    try clear hfz25_2
                    try clear hfz25_3
                    try clear hfz25_4
                    try clear hfz25_5
                    try clear hfz25_6
                    try clear hfz27_0
                    try clear hfz27_1
                    try clear hfz27_2
                    try clear hfz27_3
                    try clear hfz32_0
                    try clear hfz32_1
                    try clear hfz32_2
                    try clear hfz32_3
                    try clear hfz32_4
                    try clear hfz32_5
                    try clear hfz32_6
                    try clear hfz34_0
                    try clear hfz34_1
                    try clear hfz34_2
                    try clear hfz34_3
                    try clear hfz9_0
                    try clear hfz9_1
                    try clear hfz9_2
                    try clear hfz9_3
                    try clear hx156_0
                    try clear hx156_1
                    try clear hx156_2
                    try clear hx156_3
                    try clear hx156_4
                    try clear hx156_5
                    try clear hx156_6
                    try clear p1
                    try clear p15
                    try clear p156
                    try clear p2
                    try clear q1
                    try clear q15
                    try clear q156
                    obtain ⟨kq, x156001_27, HA, HJ27, BK154, BK155, BK157, HB⟩ := hcut
                    cases kq with
                    | zero => exact absurd HA.out (by simp [chancerylaw3_stateOf.j2])
                    | succ kj27 =>
                      have H := HA.out
                      clear HA
                      simp only [chancerylaw3_stateOf.j2] at H
                      have HC35 := Aside0.mk H
                      clear H
                      go_upto_block 2 with (fail)
                      repeat (go_quiet (fail); go_upto_block 2 with (fail))
                      go_cut [14] (fun v14 wc => ∃ (kq : Nat) (x14_34 : Int), v14 = .int .i64 x14_34 ∧ Aside0 (chancerylaw3_stateOf.j4 kq l1 a2 a3 a4 x14_34 l0 (l0.length : Int) x19_1 a2 x156001_27 x156002_1 x156003_1 ((rd_T37 l0 x19_1).f0) ((rd_T37 l0 x19_1).f1) ((rd_T37 l0 x19_1).f2) ((rd_T37 l0 x19_1).f3) ((rd_T37 l0 x19_1).f4) ((rd_T37 l0 x19_1).f5) ((rd_T37 l0 x19_1).f6) = some (r1, r2, r3, r4)) ∧ Aside0 (kq ≤ kj27) ∧ Aside0 (wc.heap[gb154]? = some (.cells #[.int .i64 0, .int .i64 0, .int .i64 0, .int .i64 0] 33 (0, 0))) ∧ Aside0 (wc.heap[gb155]? = some (.cells #[.int .i64 a2, .int .i64 x156001_27, .int .i64 x156002_1, .int .i64 x156003_1] 33 (0, 0))) ∧ Aside0 (wc.heap[gb157]? = some (.cells #[.int .i64 ((rd_T37 l0 x19_1).f0), .int .i64 ((rd_T37 l0 x19_1).f1), .int .i64 ((rd_T37 l0 x19_1).f2), .int .i64 ((rd_T37 l0 x19_1).f3), .int .i64 ((rd_T37 l0 x19_1).f4), .int .i64 ((rd_T37 l0 x19_1).f5), .int .i64 ((rd_T37 l0 x19_1).f6)] 37 (0, 0))) ∧ Aside0 (Below w.heap.size w wc))
                      case first =>
                        have H := HC35.out
                        clear HC35
                        by_cases c36 : 0 ≤ x19_1
                        · rw [if_pos c36] at H
                          have c36b0 : decide (0 ≤ x19_1) = true := decide_eq_true c36
                          clear c36
                          (first | rw [c36b0] | (simp only [i64_w, i32_w]; rw [c36b0]) | skip)
                          by_cases c37 : x19_1 < (l1.length : Int)
                          · rw [if_pos c37] at H
                            have c37b0 : decide (x19_1 < (l1.length : Int)) = true := decide_eq_true c37
                            clear c37
                            have HC38 := Aside0.mk H
                            clear H
                            have p158 : 0 ≤ (x19_1 : Int) := of_decide_eq_true (by first | (with_reducible assumption) | assumption)
                            have q158 : x19_1 < (l1.length : Int) := of_decide_eq_true (by first | (with_reducible assumption) | assumption)
                            obtain ⟨ad158, e158, hx158_0, hx158_1, hx158_2⟩ := at_T45 HR1.out x19_1 p158 q158
                            cases e158
                            replace hx158_0 := (HB.out.cell (World.block_lt_of_cell? w _ hx158_0)).trans hx158_0
                            replace hx158_1 := (HB.out.cell (World.block_lt_of_cell? w _ hx158_1)).trans hx158_1
                            replace hx158_2 := (HB.out.cell (World.block_lt_of_cell? w _ hx158_2)).trans hx158_2
                            replace p158 := eq_true p158
                            replace q158 := eq_true q158
                            go_upto_if 40 with (fail)
                            repeat (go_quiet (fail); go_upto_if 40 with (fail))
                            go_cut [40] (fun v40 wc => ∃ (kq : Nat) (x40_37 : Bool), v40 = .bool x40_37 ∧ Aside0 (chancerylaw3_stateOf.j3 kq l1 a2 a3 a4 x19_1 0 l0 (l0.length : Int) x19_1 x40_37 a2 x156001_27 x156002_1 x156003_1 ((rd_T37 l0 x19_1).f0) ((rd_T37 l0 x19_1).f1) ((rd_T37 l0 x19_1).f2) ((rd_T37 l0 x19_1).f3) ((rd_T37 l0 x19_1).f4) ((rd_T37 l0 x19_1).f5) ((rd_T37 l0 x19_1).f6) = some (r1, r2, r3, r4)) ∧ Aside0 (kq ≤ kj27) ∧ Aside0 (wc.heap[gb154]? = some (.cells #[.int .i64 0, .int .i64 0, .int .i64 0, .int .i64 0] 33 (0, 0))) ∧ Aside0 (wc.heap[gb155]? = some (.cells #[.int .i64 a2, .int .i64 x156001_27, .int .i64 x156002_1, .int .i64 x156003_1] 33 (0, 0))) ∧ Aside0 (wc.heap[gb157]? = some (.cells #[.int .i64 ((rd_T37 l0 x19_1).f0), .int .i64 ((rd_T37 l0 x19_1).f1), .int .i64 ((rd_T37 l0 x19_1).f2), .int .i64 ((rd_T37 l0 x19_1).f3), .int .i64 ((rd_T37 l0 x19_1).f4), .int .i64 ((rd_T37 l0 x19_1).f5), .int .i64 ((rd_T37 l0 x19_1).f6)] 37 (0, 0))) ∧ Aside0 (Below w.heap.size w wc))
                            case first =>
                              have H := HC38.out
                              clear HC38
                              by_cases c39 : ((rd_T45 l1 x19_1).f0) < a3
                              · rw [if_pos c39] at H
                                have c39b0 : decide (((rd_T45 l1 x19_1).f0) < a3) = true := decide_eq_true c39
                                clear c39
                                (first | rw [c39b0] | (simp only [i64_w, i32_w]; rw [c39b0]) | skip)
                                have H' := Aside0.mk H
                                clear H
                                go_wp2
                                repeat (go_quiet (fail); try go_wp2)
                                go_meet
                                case rel => exact ⟨_, (decide (((rd_T45 l1 x19_1).f0) < a3)), (by first | rfl | (simp; done) | (simp [*]; done)), H', ⟨by have := HK1.out; have := HJ13.out; have := HJ27.out; first | omega | exact Nat.le_refl _⟩, ⟨by (with_reducible repeat (first | refine blk_drewN ?_ _ | refine blk_drew ?_ | refine blk_alloc ?_ _)); exact BK154.out⟩, ⟨by (with_reducible repeat (first | refine blk_drewN ?_ _ | refine blk_drew ?_ | refine blk_alloc ?_ _)); exact BK155.out⟩, ⟨by (with_reducible repeat (first | refine blk_drewN ?_ _ | refine blk_drew ?_ | refine blk_alloc ?_ _)); exact BK157.out⟩, ⟨by repeat (first | (with_reducible first | exact HB.out | apply below_alloc | apply pw_below_drewN | apply below_drew1 | refine below_set ?_ GE154.out | refine below_set ?_ GE155.out | refine below_set ?_ GE157.out) | exact HB.out)⟩⟩
                              · rw [if_neg c39] at H
                                have c39b0 : decide (((rd_T45 l1 x19_1).f0) < a3) = false := decide_eq_false c39
                                clear c39
                                (first | rw [c39b0] | (simp only [i64_w, i32_w]; rw [c39b0]) | skip)
                                by_cases c40 : ((rd_T45 l1 x19_1).f0) = a3
                                · rw [if_pos c40] at H
                                  have c40b0 : (((rd_T45 l1 x19_1).f0) == a3) = true := beq_iff_eq.mpr c40
                                  have c40b1 : (((rd_T45 l1 x19_1).f0) != a3) = false := bne_eq_false_iff_eq.mpr c40
                                  clear c40
                                  have H' := Aside0.mk H
                                  clear H
                                  have p159 : 0 ≤ (x19_1 : Int) := of_decide_eq_true (by first | (with_reducible assumption) | assumption)
                                  have q159 : x19_1 < (l1.length : Int) := of_decide_eq_true (by first | (with_reducible assumption) | assumption)
                                  obtain ⟨ad159, e159, hx159_0, hx159_1, hx159_2⟩ := at_T45 HR1.out x19_1 p159 q159
                                  obtain rfl : ad158 = ad159 := (by injection e159)
                                  replace hx159_0 := (HB.out.cell (World.block_lt_of_cell? w _ hx159_0)).trans hx159_0
                                  replace hx159_1 := (HB.out.cell (World.block_lt_of_cell? w _ hx159_1)).trans hx159_1
                                  replace hx159_2 := (HB.out.cell (World.block_lt_of_cell? w _ hx159_2)).trans hx159_2
                                  replace p159 := eq_true p159
                                  replace q159 := eq_true q159
                                  have p160 : 0 ≤ (x19_1 : Int) := of_decide_eq_true (by first | (with_reducible assumption) | assumption)
                                  have q160 : x19_1 < (l1.length : Int) := of_decide_eq_true (by first | (with_reducible assumption) | assumption)
                                  obtain ⟨ad160, e160, hx160_0, hx160_1, hx160_2⟩ := at_T45 HR1.out x19_1 p160 q160
                                  obtain rfl : ad158 = ad160 := (by injection e160)
                                  replace hx160_0 := (HB.out.cell (World.block_lt_of_cell? w _ hx160_0)).trans hx160_0
                                  replace hx160_1 := (HB.out.cell (World.block_lt_of_cell? w _ hx160_1)).trans hx160_1
                                  replace hx160_2 := (HB.out.cell (World.block_lt_of_cell? w _ hx160_2)).trans hx160_2
                                  replace p160 := eq_true p160
                                  replace q160 := eq_true q160
                                  go_wp2
                                  repeat (go_quiet (fail); try go_wp2)
                                  go_meet
                                  case rel => exact ⟨_, (decide (a4 ≥ ((rd_T45 l1 x19_1).f2))), (by first | rfl | (simp; done) | (simp [*]; done)), H', ⟨by have := HK1.out; have := HJ13.out; have := HJ27.out; first | omega | exact Nat.le_refl _⟩, ⟨by (with_reducible repeat (first | refine blk_drewN ?_ _ | refine blk_drew ?_ | refine blk_alloc ?_ _)); exact BK154.out⟩, ⟨by (with_reducible repeat (first | refine blk_drewN ?_ _ | refine blk_drew ?_ | refine blk_alloc ?_ _)); exact BK155.out⟩, ⟨by (with_reducible repeat (first | refine blk_drewN ?_ _ | refine blk_drew ?_ | refine blk_alloc ?_ _)); exact BK157.out⟩, ⟨by repeat (first | (with_reducible first | exact HB.out | apply below_alloc | apply pw_below_drewN | apply below_drew1 | refine below_set ?_ GE154.out | refine below_set ?_ GE155.out | refine below_set ?_ GE157.out) | exact HB.out)⟩⟩
                                · rw [if_neg c40] at H
                                  have c40b0 : (((rd_T45 l1 x19_1).f0) == a3) = false := beq_eq_false_iff_ne.mpr c40
                                  have c40b1 : (((rd_T45 l1 x19_1).f0) != a3) = true := bne_iff_ne.mpr c40
                                  have H' := Aside0.mk H
                                  clear H
                                  have p159 : 0 ≤ (x19_1 : Int) := of_decide_eq_true (by first | (with_reducible assumption) | assumption)
                                  have q159 : x19_1 < (l1.length : Int) := of_decide_eq_true (by first | (with_reducible assumption) | assumption)
                                  obtain ⟨ad159, e159, hx159_0, hx159_1, hx159_2⟩ := at_T45 HR1.out x19_1 p159 q159
                                  obtain rfl : ad158 = ad159 := (by injection e159)
                                  replace hx159_0 := (HB.out.cell (World.block_lt_of_cell? w _ hx159_0)).trans hx159_0
                                  replace hx159_1 := (HB.out.cell (World.block_lt_of_cell? w _ hx159_1)).trans hx159_1
                                  replace hx159_2 := (HB.out.cell (World.block_lt_of_cell? w _ hx159_2)).trans hx159_2
                                  replace p159 := eq_true p159
                                  replace q159 := eq_true q159
                                  go_wp2
                                  repeat (go_quiet (fail); try go_wp2)
                                  go_meet
                                  case rel => exact ⟨_, (false), (by first | rfl | (simp; done) | (simp [*]; done)), H', ⟨by have := HK1.out; have := HJ13.out; have := HJ27.out; first | omega | exact Nat.le_refl _⟩, ⟨by (with_reducible repeat (first | refine blk_drewN ?_ _ | refine blk_drew ?_ | refine blk_alloc ?_ _)); exact BK154.out⟩, ⟨by (with_reducible repeat (first | refine blk_drewN ?_ _ | refine blk_drew ?_ | refine blk_alloc ?_ _)); exact BK155.out⟩, ⟨by (with_reducible repeat (first | refine blk_drewN ?_ _ | refine blk_drew ?_ | refine blk_alloc ?_ _)); exact BK157.out⟩, ⟨by repeat (first | (with_reducible first | exact HB.out | apply below_alloc | apply pw_below_drewN | apply below_drew1 | refine below_set ?_ GE154.out | refine below_set ?_ GE155.out | refine below_set ?_ GE157.out) | exact HB.out)⟩⟩
                            case rest =>
                              clear HC38
                              try clear c1
                              try clear p1
                              try clear q1
                              try clear hx1
                              try clear c2
                              try clear p2
                              try clear c3
                              try clear c4
                              try clear p6
                              try clear c8
                              try clear c9
                              try clear c10
                              try clear c10b0
                              try clear c11
                              try clear c11b0
                              try clear c12
                              try clear c12b0
                              try clear c13
                              try clear c13b0
                              try clear c13b1
                              try clear p15
                              try clear q15
                              try clear hx15
                              try clear c16
                              try clear p16
                              try clear q16
                              try clear hx16
                              try clear c17
                              try clear c19
                              try clear c19b0
                              try clear c19b1
                              try clear c20
                              try clear c21
                              try clear c23
                              try clear c24
                              try clear c26
                              try clear c29
                              try clear c30
                              try clear c31
                              try clear c33
                              try clear c36
                              try clear c36b0
                              try clear c37
                              try clear c37b0
                              try clear c39
                              try clear c39b0
                              try clear c40
                              try clear c40b0
                              try clear c40b1
                              try clear hcz18_0
                              try clear hcz18_1
                              try clear hcz18_2
                              try clear hcz18_3
                              try clear hcz18_4
                              try clear hcz18_5
                              try clear hcz18_6
                              try clear hcz22_0
                              try clear hcz22_1
                              try clear hcz22_2
                              try clear hcz22_3
                              try clear hcz22_4
                              try clear hcz22_5
                              try clear hcz22_6
                              try clear hcz25_0
                              try clear hcz25_1
                              try clear hcz25_2
                              try clear hcz25_3
                              try clear hcz25_4
                              try clear hcz25_5
                              try clear hcz25_6
                              try clear hcz27_0
                              try clear hcz27_1
                              try clear hcz27_2
                              try clear hcz27_3
                              try clear hcz32_0
                              try clear hcz32_1
                              try clear hcz32_2
                              try clear hcz32_3
                              try clear hcz32_4
                              try clear hcz32_5
                              try clear hcz32_6
                              try clear hcz34_0
                              try clear hcz34_1
                              try clear hcz34_2
                              try clear hcz34_3
                              try clear hcz9_0
                              try clear hcz9_1
                              try clear hcz9_2
                              try clear hcz9_3
                              try clear hfz18_0
                              try clear hfz18_1
                              try clear hfz18_2
                              try clear hfz18_3
                              try clear hfz18_4
                              try clear hfz18_5
                              try clear hfz18_6
                              try clear hfz22_0
                              try clear hfz22_1
                              try clear hfz22_2
                              try clear hfz22_3
                              try clear hfz22_4
                              try clear hfz22_5
                              try clear hfz22_6
                              try clear hfz25_0
                              try clear hfz25_1
                              try clear hfz25_2
                              try clear hfz25_3
                              try clear hfz25_4
                              try clear hfz25_5
                              try clear hfz25_6
                              try clear hfz27_0
                              try clear hfz27_1
                              try clear hfz27_2
                              try clear hfz27_3
                              try clear hfz32_0
                              try clear hfz32_1
                              try clear hfz32_2
                              try clear hfz32_3
                              try clear hfz32_4
                              try clear hfz32_5
                              try clear hfz32_6
                              try clear hfz34_0
                              try clear hfz34_1
                              try clear hfz34_2
                              try clear hfz34_3
                              try clear hfz9_0
                              try clear hfz9_1
                              try clear hfz9_2
                              try clear hfz9_3
                              try clear hx156_0
                              try clear hx156_1
                              try clear hx156_2
                              try clear hx156_3
                              try clear hx156_4
                              try clear hx156_5
                              try clear hx156_6
                              try clear hx158_0
                              try clear hx158_1
                              try clear hx158_2
                              try clear hx159_0
                              try clear hx159_1
                              try clear hx159_2
                              try clear hx160_0
                              try clear hx160_1
                              try clear hx160_2
                              try clear p1
                              try clear p15
                              try clear p156
                              try clear p158
                              try clear p159
                              try clear p160
                              try clear p2
                              try clear p6
                              try clear q1
                              try clear q15
                              try clear q156
                              try clear q158
                              try clear q159
                              try clear q160
                              obtain ⟨kq, x40_37, rfl, HA, HJ37, BK154, BK155, BK157, HB⟩ := hcut
                              cases kq with
                              | zero => exact absurd HA.out (by simp [chancerylaw3_stateOf.j3])
                              | succ kj37 =>
                                have H := HA.out
                                clear HA
                                simp only [chancerylaw3_stateOf.j3] at H
                                by_cases c41 : x40_37 = true
                                · subst c41
                                  have H1 : (chancerylaw3_stateOf.j4 kj37 l1 a2 a3 a4 1000 l0 (l0.length : Int) x19_1 a2 x156001_27 x156002_1 x156003_1 ((rd_T37 l0 x19_1).f0) ((rd_T37 l0 x19_1).f1) ((rd_T37 l0 x19_1).f2) ((rd_T37 l0 x19_1).f3) ((rd_T37 l0 x19_1).f4) ((rd_T37 l0 x19_1).f5) ((rd_T37 l0 x19_1).f6)) = some (r1, r2, r3, r4) := by rw [if_pos rfl] at H; exact H
                                  clear H
                                  have H := H1
                                  clear H1
                                  have H' := Aside0.mk H
                                  clear H
                                  go_wp2
                                  repeat (go_quiet (fail); try go_wp2)
                                  go_meet
                                  case rel => exact ⟨_, (1000), (by first | rfl | (simp; done) | (simp [*]; done)), H', ⟨by have := HK1.out; have := HJ13.out; have := HJ27.out; have := HJ37.out; first | omega | exact Nat.le_refl _⟩, ⟨by (with_reducible repeat (first | refine blk_drewN ?_ _ | refine blk_drew ?_ | refine blk_alloc ?_ _)); exact BK154.out⟩, ⟨by (with_reducible repeat (first | refine blk_drewN ?_ _ | refine blk_drew ?_ | refine blk_alloc ?_ _)); exact BK155.out⟩, ⟨by (with_reducible repeat (first | refine blk_drewN ?_ _ | refine blk_drew ?_ | refine blk_alloc ?_ _)); exact BK157.out⟩, ⟨by repeat (first | (with_reducible first | exact HB.out | apply below_alloc | apply pw_below_drewN | apply below_drew1 | refine below_set ?_ GE154.out | refine below_set ?_ GE155.out | refine below_set ?_ GE157.out) | exact HB.out)⟩⟩
                                · replace c41 := Bool.eq_false_iff.mpr c41
                                  subst c41
                                  have H1 : (if 0 ≤ x19_1 then (if x19_1 < (l1.length : Int) then (if ((rd_T45 l1 x19_1).f0) = a3 then (if a4 > ((rd_T45 l1 x19_1).f1) then (if (wrap64 (((rd_T45 l1 x19_1).f2) - ((rd_T45 l1 x19_1).f1))) = 0 then (none) else (chancerylaw3_stateOf.j4 kj37 l1 a2 a3 a4 (wrap64 (Int.tdiv (wrap64 (1000 * (wrap64 (a4 - ((rd_T45 l1 x19_1).f1))))) (wrap64 (((rd_T45 l1 x19_1).f2) - ((rd_T45 l1 x19_1).f1))))) l0 (l0.length : Int) x19_1 a2 x156001_27 x156002_1 x156003_1 ((rd_T37 l0 x19_1).f0) ((rd_T37 l0 x19_1).f1) ((rd_T37 l0 x19_1).f2) ((rd_T37 l0 x19_1).f3) ((rd_T37 l0 x19_1).f4) ((rd_T37 l0 x19_1).f5) ((rd_T37 l0 x19_1).f6))) else (chancerylaw3_stateOf.j4 kj37 l1 a2 a3 a4 0 l0 (l0.length : Int) x19_1 a2 x156001_27 x156002_1 x156003_1 ((rd_T37 l0 x19_1).f0) ((rd_T37 l0 x19_1).f1) ((rd_T37 l0 x19_1).f2) ((rd_T37 l0 x19_1).f3) ((rd_T37 l0 x19_1).f4) ((rd_T37 l0 x19_1).f5) ((rd_T37 l0 x19_1).f6))) else (chancerylaw3_stateOf.j4 kj37 l1 a2 a3 a4 0 l0 (l0.length : Int) x19_1 a2 x156001_27 x156002_1 x156003_1 ((rd_T37 l0 x19_1).f0) ((rd_T37 l0 x19_1).f1) ((rd_T37 l0 x19_1).f2) ((rd_T37 l0 x19_1).f3) ((rd_T37 l0 x19_1).f4) ((rd_T37 l0 x19_1).f5) ((rd_T37 l0 x19_1).f6))) else (none)) else (none)) = some (r1, r2, r3, r4) := by rw [if_neg (show ¬ (false = true) by decide)] at H; exact H
                                  clear H
                                  have H := H1
                                  clear H1
                                  by_cases c42 : 0 ≤ x19_1
                                  · rw [if_pos c42] at H
                                    have c42b0 : decide (0 ≤ x19_1) = true := decide_eq_true c42
                                    clear c42
                                    by_cases c43 : x19_1 < (l1.length : Int)
                                    · rw [if_pos c43] at H
                                      have c43b0 : decide (x19_1 < (l1.length : Int)) = true := decide_eq_true c43
                                      clear c43
                                      by_cases c44 : ((rd_T45 l1 x19_1).f0) = a3
                                      · rw [if_pos c44] at H
                                        have c44b0 : (((rd_T45 l1 x19_1).f0) == a3) = true := beq_iff_eq.mpr c44
                                        have c44b1 : (((rd_T45 l1 x19_1).f0) != a3) = false := bne_eq_false_iff_eq.mpr c44
                                        clear c44
                                        by_cases c45 : a4 > ((rd_T45 l1 x19_1).f1)
                                        · rw [if_pos c45] at H
                                          have c45b0 : decide (((rd_T45 l1 x19_1).f1) < a4) = true := decide_eq_true c45
                                          clear c45
                                          by_cases c46 : (wrap64 (((rd_T45 l1 x19_1).f2) - ((rd_T45 l1 x19_1).f1))) = 0
                                          · rw [if_pos c46] at H
                                            exact absurd H (by simp)
                                          · rw [if_neg c46] at H
                                            have c46b0 : ((wrap64 (((rd_T45 l1 x19_1).f2) - ((rd_T45 l1 x19_1).f1))) == 0) = false := beq_eq_false_iff_ne.mpr c46
                                            have c46b1 : ((wrap64 (((rd_T45 l1 x19_1).f2) - ((rd_T45 l1 x19_1).f1))) != 0) = true := bne_iff_ne.mpr c46
                                            have H' := Aside0.mk H
                                            clear H
                                            have p161 : 0 ≤ (x19_1 : Int) := of_decide_eq_true (by first | (with_reducible assumption) | assumption)
                                            have q161 : x19_1 < (l1.length : Int) := of_decide_eq_true (by first | (with_reducible assumption) | assumption)
                                            obtain ⟨ad161, e161, hx161_0, hx161_1, hx161_2⟩ := at_T45 HR1.out x19_1 p161 q161
                                            obtain rfl : ad158 = ad161 := (by injection e161)
                                            replace hx161_0 := (HB.out.cell (World.block_lt_of_cell? w _ hx161_0)).trans hx161_0
                                            replace hx161_1 := (HB.out.cell (World.block_lt_of_cell? w _ hx161_1)).trans hx161_1
                                            replace hx161_2 := (HB.out.cell (World.block_lt_of_cell? w _ hx161_2)).trans hx161_2
                                            replace p161 := eq_true p161
                                            replace q161 := eq_true q161
                                            have p162 : 0 ≤ (x19_1 : Int) := of_decide_eq_true (by first | (with_reducible assumption) | assumption)
                                            have q162 : x19_1 < (l1.length : Int) := of_decide_eq_true (by first | (with_reducible assumption) | assumption)
                                            obtain ⟨ad162, e162, hx162_0, hx162_1, hx162_2⟩ := at_T45 HR1.out x19_1 p162 q162
                                            obtain rfl : ad158 = ad162 := (by injection e162)
                                            replace hx162_0 := (HB.out.cell (World.block_lt_of_cell? w _ hx162_0)).trans hx162_0
                                            replace hx162_1 := (HB.out.cell (World.block_lt_of_cell? w _ hx162_1)).trans hx162_1
                                            replace hx162_2 := (HB.out.cell (World.block_lt_of_cell? w _ hx162_2)).trans hx162_2
                                            replace p162 := eq_true p162
                                            replace q162 := eq_true q162
                                            have p163 : 0 ≤ (x19_1 : Int) := of_decide_eq_true (by first | (with_reducible assumption) | assumption)
                                            have q163 : x19_1 < (l1.length : Int) := of_decide_eq_true (by first | (with_reducible assumption) | assumption)
                                            obtain ⟨ad163, e163, hx163_0, hx163_1, hx163_2⟩ := at_T45 HR1.out x19_1 p163 q163
                                            obtain rfl : ad158 = ad163 := (by injection e163)
                                            replace hx163_0 := (HB.out.cell (World.block_lt_of_cell? w _ hx163_0)).trans hx163_0
                                            replace hx163_1 := (HB.out.cell (World.block_lt_of_cell? w _ hx163_1)).trans hx163_1
                                            replace hx163_2 := (HB.out.cell (World.block_lt_of_cell? w _ hx163_2)).trans hx163_2
                                            replace p163 := eq_true p163
                                            replace q163 := eq_true q163
                                            have p164 : 0 ≤ (x19_1 : Int) := of_decide_eq_true (by first | (with_reducible assumption) | assumption)
                                            have q164 : x19_1 < (l1.length : Int) := of_decide_eq_true (by first | (with_reducible assumption) | assumption)
                                            obtain ⟨ad164, e164, hx164_0, hx164_1, hx164_2⟩ := at_T45 HR1.out x19_1 p164 q164
                                            obtain rfl : ad158 = ad164 := (by injection e164)
                                            replace hx164_0 := (HB.out.cell (World.block_lt_of_cell? w _ hx164_0)).trans hx164_0
                                            replace hx164_1 := (HB.out.cell (World.block_lt_of_cell? w _ hx164_1)).trans hx164_1
                                            replace hx164_2 := (HB.out.cell (World.block_lt_of_cell? w _ hx164_2)).trans hx164_2
                                            replace p164 := eq_true p164
                                            replace q164 := eq_true q164
                                            have p165 : 0 ≤ (x19_1 : Int) := of_decide_eq_true (by first | (with_reducible assumption) | assumption)
                                            have q165 : x19_1 < (l1.length : Int) := of_decide_eq_true (by first | (with_reducible assumption) | assumption)
                                            obtain ⟨ad165, e165, hx165_0, hx165_1, hx165_2⟩ := at_T45 HR1.out x19_1 p165 q165
                                            obtain rfl : ad158 = ad165 := (by injection e165)
                                            replace hx165_0 := (HB.out.cell (World.block_lt_of_cell? w _ hx165_0)).trans hx165_0
                                            replace hx165_1 := (HB.out.cell (World.block_lt_of_cell? w _ hx165_1)).trans hx165_1
                                            replace hx165_2 := (HB.out.cell (World.block_lt_of_cell? w _ hx165_2)).trans hx165_2
                                            replace p165 := eq_true p165
                                            replace q165 := eq_true q165
                                            go_wp2
                                            repeat (go_quiet (fail); try go_wp2)
                                            go_meet
                                            case rel => exact ⟨_, (wrap64 (Int.tdiv (wrap64 (1000 * (wrap64 (a4 - ((rd_T45 l1 x19_1).f1))))) (wrap64 (((rd_T45 l1 x19_1).f2) - ((rd_T45 l1 x19_1).f1))))), (by first | rfl | (simp; done) | (simp [*]; done)), H', ⟨by have := HK1.out; have := HJ13.out; have := HJ27.out; have := HJ37.out; first | omega | exact Nat.le_refl _⟩, ⟨by (with_reducible repeat (first | refine blk_drewN ?_ _ | refine blk_drew ?_ | refine blk_alloc ?_ _)); exact BK154.out⟩, ⟨by (with_reducible repeat (first | refine blk_drewN ?_ _ | refine blk_drew ?_ | refine blk_alloc ?_ _)); exact BK155.out⟩, ⟨by (with_reducible repeat (first | refine blk_drewN ?_ _ | refine blk_drew ?_ | refine blk_alloc ?_ _)); exact BK157.out⟩, ⟨by repeat (first | (with_reducible first | exact HB.out | apply below_alloc | apply pw_below_drewN | apply below_drew1 | refine below_set ?_ GE154.out | refine below_set ?_ GE155.out | refine below_set ?_ GE157.out) | exact HB.out)⟩⟩
                                        · rw [if_neg c45] at H
                                          have c45b0 : decide (((rd_T45 l1 x19_1).f1) < a4) = false := decide_eq_false c45
                                          clear c45
                                          have H' := Aside0.mk H
                                          clear H
                                          have p161 : 0 ≤ (x19_1 : Int) := of_decide_eq_true (by first | (with_reducible assumption) | assumption)
                                          have q161 : x19_1 < (l1.length : Int) := of_decide_eq_true (by first | (with_reducible assumption) | assumption)
                                          obtain ⟨ad161, e161, hx161_0, hx161_1, hx161_2⟩ := at_T45 HR1.out x19_1 p161 q161
                                          obtain rfl : ad158 = ad161 := (by injection e161)
                                          replace hx161_0 := (HB.out.cell (World.block_lt_of_cell? w _ hx161_0)).trans hx161_0
                                          replace hx161_1 := (HB.out.cell (World.block_lt_of_cell? w _ hx161_1)).trans hx161_1
                                          replace hx161_2 := (HB.out.cell (World.block_lt_of_cell? w _ hx161_2)).trans hx161_2
                                          replace p161 := eq_true p161
                                          replace q161 := eq_true q161
                                          have p162 : 0 ≤ (x19_1 : Int) := of_decide_eq_true (by first | (with_reducible assumption) | assumption)
                                          have q162 : x19_1 < (l1.length : Int) := of_decide_eq_true (by first | (with_reducible assumption) | assumption)
                                          obtain ⟨ad162, e162, hx162_0, hx162_1, hx162_2⟩ := at_T45 HR1.out x19_1 p162 q162
                                          obtain rfl : ad158 = ad162 := (by injection e162)
                                          replace hx162_0 := (HB.out.cell (World.block_lt_of_cell? w _ hx162_0)).trans hx162_0
                                          replace hx162_1 := (HB.out.cell (World.block_lt_of_cell? w _ hx162_1)).trans hx162_1
                                          replace hx162_2 := (HB.out.cell (World.block_lt_of_cell? w _ hx162_2)).trans hx162_2
                                          replace p162 := eq_true p162
                                          replace q162 := eq_true q162
                                          go_wp2
                                          repeat (go_quiet (fail); try go_wp2)
                                          go_meet
                                          case rel => exact ⟨_, (0), (by first | rfl | (simp; done) | (simp [*]; done)), H', ⟨by have := HK1.out; have := HJ13.out; have := HJ27.out; have := HJ37.out; first | omega | exact Nat.le_refl _⟩, ⟨by (with_reducible repeat (first | refine blk_drewN ?_ _ | refine blk_drew ?_ | refine blk_alloc ?_ _)); exact BK154.out⟩, ⟨by (with_reducible repeat (first | refine blk_drewN ?_ _ | refine blk_drew ?_ | refine blk_alloc ?_ _)); exact BK155.out⟩, ⟨by (with_reducible repeat (first | refine blk_drewN ?_ _ | refine blk_drew ?_ | refine blk_alloc ?_ _)); exact BK157.out⟩, ⟨by repeat (first | (with_reducible first | exact HB.out | apply below_alloc | apply pw_below_drewN | apply below_drew1 | refine below_set ?_ GE154.out | refine below_set ?_ GE155.out | refine below_set ?_ GE157.out) | exact HB.out)⟩⟩
                                      · rw [if_neg c44] at H
                                        have c44b0 : (((rd_T45 l1 x19_1).f0) == a3) = false := beq_eq_false_iff_ne.mpr c44
                                        have c44b1 : (((rd_T45 l1 x19_1).f0) != a3) = true := bne_iff_ne.mpr c44
                                        have H' := Aside0.mk H
                                        clear H
                                        have p161 : 0 ≤ (x19_1 : Int) := of_decide_eq_true (by first | (with_reducible assumption) | assumption)
                                        have q161 : x19_1 < (l1.length : Int) := of_decide_eq_true (by first | (with_reducible assumption) | assumption)
                                        obtain ⟨ad161, e161, hx161_0, hx161_1, hx161_2⟩ := at_T45 HR1.out x19_1 p161 q161
                                        obtain rfl : ad158 = ad161 := (by injection e161)
                                        replace hx161_0 := (HB.out.cell (World.block_lt_of_cell? w _ hx161_0)).trans hx161_0
                                        replace hx161_1 := (HB.out.cell (World.block_lt_of_cell? w _ hx161_1)).trans hx161_1
                                        replace hx161_2 := (HB.out.cell (World.block_lt_of_cell? w _ hx161_2)).trans hx161_2
                                        replace p161 := eq_true p161
                                        replace q161 := eq_true q161
                                        go_wp2
                                        repeat (go_quiet (fail); try go_wp2)
                                        go_meet
                                        case rel => exact ⟨_, (0), (by first | rfl | (simp; done) | (simp [*]; done)), H', ⟨by have := HK1.out; have := HJ13.out; have := HJ27.out; have := HJ37.out; first | omega | exact Nat.le_refl _⟩, ⟨by (with_reducible repeat (first | refine blk_drewN ?_ _ | refine blk_drew ?_ | refine blk_alloc ?_ _)); exact BK154.out⟩, ⟨by (with_reducible repeat (first | refine blk_drewN ?_ _ | refine blk_drew ?_ | refine blk_alloc ?_ _)); exact BK155.out⟩, ⟨by (with_reducible repeat (first | refine blk_drewN ?_ _ | refine blk_drew ?_ | refine blk_alloc ?_ _)); exact BK157.out⟩, ⟨by repeat (first | (with_reducible first | exact HB.out | apply below_alloc | apply pw_below_drewN | apply below_drew1 | refine below_set ?_ GE154.out | refine below_set ?_ GE155.out | refine below_set ?_ GE157.out) | exact HB.out)⟩⟩
                                    · rw [if_neg c43] at H
                                      exact absurd H (by simp)
                                  · rw [if_neg c42] at H
                                    exact absurd H (by simp)
                          · rw [if_neg c37] at H
                            exact absurd H (by simp)
                        · rw [if_neg c36] at H
                          exact absurd H (by simp)
                      case rest =>
                        clear HC35
                        try clear c1
                        try clear p1
                        try clear q1
                        try clear hx1
                        try clear c2
                        try clear p2
                        try clear c3
                        try clear c4
                        try clear p6
                        try clear c8
                        try clear c9
                        try clear c10
                        try clear c10b0
                        try clear c11
                        try clear c11b0
                        try clear c12
                        try clear c12b0
                        try clear c13
                        try clear c13b0
                        try clear c13b1
                        try clear p15
                        try clear q15
                        try clear hx15
                        try clear c16
                        try clear p16
                        try clear q16
                        try clear hx16
                        try clear c17
                        try clear c19
                        try clear c19b0
                        try clear c19b1
                        try clear c20
                        try clear c21
                        try clear c23
                        try clear c24
                        try clear c26
                        try clear c29
                        try clear c30
                        try clear c31
                        try clear c33
                        try clear c36
                        try clear c36b0
                        try clear c37
                        try clear c37b0
                        try clear c39
                        try clear c39b0
                        try clear c40
                        try clear c40b0
                        try clear c40b1
                        try clear c41
                        try clear c42
                        try clear c42b0
                        try clear c43
                        try clear c43b0
                        try clear c44
                        try clear c44b0
                        try clear c44b1
                        try clear c45
                        try clear c45b0
                        try clear c46
                        try clear c46b0
                        try clear c46b1
                        try clear hcz18_0
                        try clear hcz18_1
                        try clear hcz18_2
                        try clear hcz18_3
                        try clear hcz18_4
                        try clear hcz18_5
                        try clear hcz18_6
                        try clear hcz22_0
                        try clear hcz22_1
                        try clear hcz22_2
                        try clear hcz22_3
                        try clear hcz22_4
                        try clear hcz22_5
                        try clear hcz22_6
                        try clear hcz25_0
                        try clear hcz25_1
                        try clear hcz25_2
                        try clear hcz25_3
                        try clear hcz25_4
                        try clear hcz25_5
                        try clear hcz25_6
                        try clear hcz27_0
                        try clear hcz27_1
                        try clear hcz27_2
                        try clear hcz27_3
                        try clear hcz32_0
                        try clear hcz32_1
                        try clear hcz32_2
                        try clear hcz32_3
                        try clear hcz32_4
                        try clear hcz32_5
                        try clear hcz32_6
                        try clear hcz34_0
                        try clear hcz34_1
                        try clear hcz34_2
                        try clear hcz34_3
                        try clear hcz9_0
                        try clear hcz9_1
                        try clear hcz9_2
                        try clear hcz9_3
                        try clear hfz18_0
                        try clear hfz18_1
                        try clear hfz18_2
                        try clear hfz18_3
                        try clear hfz18_4
                        try clear hfz18_5
                        try clear hfz18_6
                        try clear hfz22_0
                        try clear hfz22_1
                        try clear hfz22_2
                        try clear hfz22_3
                        try clear hfz22_4
                        try clear hfz22_5
                        try clear hfz22_6
                        try clear hfz25_0
                        try clear hfz25_1
                        try clear hfz25_2
                        try clear hfz25_3
                        try clear hfz25_4
                        try clear hfz25_5
                        try clear hfz25_6
                        try clear hfz27_0
                        try clear hfz27_1
                        try clear hfz27_2
                        try clear hfz27_3
                        try clear hfz32_0
                        try clear hfz32_1
                        try clear hfz32_2
                        try clear hfz32_3
                        try clear hfz32_4
                        try clear hfz32_5
                        try clear hfz32_6
                        try clear hfz34_0
                        try clear hfz34_1
                        try clear hfz34_2
                        try clear hfz34_3
                        try clear hfz9_0
                        try clear hfz9_1
                        try clear hfz9_2
                        try clear hfz9_3
                        try clear hx156_0
                        try clear hx156_1
                        try clear hx156_2
                        try clear hx156_3
                        try clear hx156_4
                        try clear hx156_5
                        try clear hx156_6
                        try clear hx158_0
                        try clear hx158_1
                        try clear hx158_2
                        try clear hx159_0
                        try clear hx159_1
                        try clear hx159_2
                        try clear hx160_0
                        try clear hx160_1
                        try clear hx160_2
                        try clear hx161_0
                        try clear hx161_1
                        try clear hx161_2
                        try clear hx162_0
                        try clear hx162_1
                        try clear hx162_2
                        try clear hx163_0
                        try clear hx163_1
                        try clear hx163_2
                        try clear hx164_0
                        try clear hx164_1
                        try clear hx164_2
                        try clear hx165_0
                        try clear hx165_1
                        try clear hx165_2
                        try clear p1
                        try clear p15
                        try clear p156
                        try clear p158
                        try clear p159
                        try clear p16
                        try clear p160
                        try clear p161
                        try clear p162
                        try clear p163
                        try clear p164
                        try clear p165
                        try clear p2
                        try clear p6
                        try clear q1
                        try clear q15
                        try clear q156
                        try clear q158
                        try clear q159
                        try clear q16
                        try clear q160
                        try clear q161
                        try clear q162
                        try clear q163
                        try clear q164
                        try clear q165
                        obtain ⟨kq, x14_34, rfl, HA, HJ34, BK154, BK155, BK157, HB⟩ := hcut
                        cases kq with
                        | zero => exact absurd HA.out (by simp [chancerylaw3_stateOf.j4])
                        | succ kj34 =>
                          have H := HA.out
                          clear HA
                          simp only [chancerylaw3_stateOf.j4] at H
                          by_cases c47 : x14_34 = 0
                          · rw [if_pos c47] at H
                            have c47b0 : (x14_34 == 0) = true := beq_iff_eq.mpr c47
                            have c47b1 : (x14_34 != 0) = false := bne_eq_false_iff_eq.mpr c47
                            clear c47
                            have H' := Aside0.mk H
                            clear H
                            go_wp2
                            repeat (go_quiet (fail); try go_wp2)
                            go_roundg kj34
                            case measure => have := HK1.out; have := HJ13.out; have := HJ27.out; have := HJ34.out; omega
                            case rel => exact ⟨(wrap64 (x19_1 + 1)), (x156001_27), (x156002_1), (x156003_1), (by first | rfl | (simp; done) | (simp [*]; done)), H', ⟨by have := HK1.out; have := HJ13.out; have := HJ27.out; have := HJ34.out; omega⟩, ⟨by (with_reducible repeat (first | refine blk_drewN ?_ _ | refine blk_drew ?_ | refine blk_alloc ?_ _)); exact BK154.out⟩, ⟨by (with_reducible repeat (first | refine blk_drewN ?_ _ | refine blk_drew ?_ | refine blk_alloc ?_ _)); exact BK155.out⟩, ⟨by repeat (first | (with_reducible first | exact HB.out | apply below_alloc | apply pw_below_drewN | apply below_drew1 | refine below_set ?_ GE154.out | refine below_set ?_ GE155.out | refine below_set ?_ GE157.out) | exact HB.out)⟩⟩
                          · rw [if_neg c47] at H
                            have c47b0 : (x14_34 == 0) = false := beq_eq_false_iff_ne.mpr c47
                            have c47b1 : (x14_34 != 0) = true := bne_iff_ne.mpr c47
                            by_cases c48 : ((rd_T37 l0 x19_1).f1) = 2
                            · rw [if_pos c48] at H
                              have c48b0 : (((rd_T37 l0 x19_1).f1) == 2) = true := beq_iff_eq.mpr c48
                              have c48b1 : (((rd_T37 l0 x19_1).f1) != 2) = false := bne_eq_false_iff_eq.mpr c48
                              clear c48
                              have H' := Aside0.mk H
                              clear H
                              have hnb49 := NB157_154.out
                              have hnc49 := NB154_157.out
                              have hnb50 := NB157_155.out
                              have hnc50 := NB155_157.out
                              have hcz51_0 : wc.cell? ⟨gb157, 0, none⟩ = some (.int .i64 ((rd_T37 l0 x19_1).f0)) := (blk_cell BK157.out 0).trans rfl
                              have hcz51_1 : wc.cell? ⟨gb157, 1, none⟩ = some (.int .i64 ((rd_T37 l0 x19_1).f1)) := (blk_cell BK157.out 1).trans rfl
                              have hcz51_2 : wc.cell? ⟨gb157, 2, none⟩ = some (.int .i64 ((rd_T37 l0 x19_1).f2)) := (blk_cell BK157.out 2).trans rfl
                              have hcz51_3 : wc.cell? ⟨gb157, 3, none⟩ = some (.int .i64 ((rd_T37 l0 x19_1).f3)) := (blk_cell BK157.out 3).trans rfl
                              have hcz51_4 : wc.cell? ⟨gb157, 4, none⟩ = some (.int .i64 ((rd_T37 l0 x19_1).f4)) := (blk_cell BK157.out 4).trans rfl
                              have hcz51_5 : wc.cell? ⟨gb157, 5, none⟩ = some (.int .i64 ((rd_T37 l0 x19_1).f5)) := (blk_cell BK157.out 5).trans rfl
                              have hcz51_6 : wc.cell? ⟨gb157, 6, none⟩ = some (.int .i64 ((rd_T37 l0 x19_1).f6)) := (blk_cell BK157.out 6).trans rfl
                              have hfz51_0 := blk_frozen BK157.out 0
                              have hfz51_1 := blk_frozen BK157.out 1
                              have hfz51_2 := blk_frozen BK157.out 2
                              have hfz51_3 := blk_frozen BK157.out 3
                              have hfz51_4 := blk_frozen BK157.out 4
                              have hfz51_5 := blk_frozen BK157.out 5
                              have hfz51_6 := blk_frozen BK157.out 6
                              have hnb52 := NB155_154.out
                              have hnc52 := NB154_155.out
                              have hcz53_0 : wc.cell? ⟨gb155, 0, none⟩ = some (.int .i64 a2) := (blk_cell BK155.out 0).trans rfl
                              have hcz53_1 : wc.cell? ⟨gb155, 1, none⟩ = some (.int .i64 x156001_27) := (blk_cell BK155.out 1).trans rfl
                              have hcz53_2 : wc.cell? ⟨gb155, 2, none⟩ = some (.int .i64 x156002_1) := (blk_cell BK155.out 2).trans rfl
                              have hcz53_3 : wc.cell? ⟨gb155, 3, none⟩ = some (.int .i64 x156003_1) := (blk_cell BK155.out 3).trans rfl
                              have hfz53_0 := blk_frozen BK155.out 0
                              have hfz53_1 := blk_frozen BK155.out 1
                              have hfz53_2 := blk_frozen BK155.out 2
                              have hfz53_3 := blk_frozen BK155.out 3
                              go_wp2
                              repeat (go_quiet (fail); try go_wp2)
                              go_roundg kj34
                              case measure => have := HK1.out; have := HJ13.out; have := HJ27.out; have := HJ34.out; omega
                              case rel => exact ⟨(wrap64 (x19_1 + 1)), (x156001_27), (wrap64 (x156002_1 + (wrap64 (Int.tdiv (wrap64 (((rd_T37 l0 x19_1).f5) * x14_34)) 1000)))), (wrap64 (x156003_1 + (wrap64 (Int.tdiv (wrap64 (((rd_T37 l0 x19_1).f6) * x14_34)) 1000)))), (by first | rfl | (simp; done) | (simp [*]; done)), H', ⟨by have := HK1.out; have := HJ13.out; have := HJ27.out; have := HJ34.out; omega⟩, ⟨by (with_reducible repeat (first | refine blk_drewN ?_ _ | refine blk_drew ?_ | refine blk_alloc ?_ _)); refine blk_far ?_ NB154_155.out _; (with_reducible repeat (first | refine blk_drewN ?_ _ | refine blk_drew ?_ | refine blk_alloc ?_ _)); refine blk_far ?_ NB154_155.out _; (with_reducible repeat (first | refine blk_drewN ?_ _ | refine blk_drew ?_ | refine blk_alloc ?_ _)); exact BK154.out⟩, ⟨by (with_reducible repeat (first | refine blk_drewN ?_ _ | refine blk_drew ?_ | refine blk_alloc ?_ _)); refine blk_put (cs := #[.int .i64 a2, .int .i64 x156001_27, .int .i64 (wrap64 (x156002_1 + (wrap64 (Int.tdiv (wrap64 (((rd_T37 l0 x19_1).f5) * x14_34)) 1000)))), .int .i64 x156003_1]) ?_ 3 _ rfl; (with_reducible repeat (first | refine blk_drewN ?_ _ | refine blk_drew ?_ | refine blk_alloc ?_ _)); refine blk_put (cs := #[.int .i64 a2, .int .i64 x156001_27, .int .i64 x156002_1, .int .i64 x156003_1]) ?_ 2 _ rfl; (with_reducible repeat (first | refine blk_drewN ?_ _ | refine blk_drew ?_ | refine blk_alloc ?_ _)); exact BK155.out⟩, ⟨by repeat (first | (with_reducible first | exact HB.out | apply below_alloc | apply pw_below_drewN | apply below_drew1 | refine below_set ?_ GE154.out | refine below_set ?_ GE155.out | refine below_set ?_ GE157.out) | exact HB.out)⟩⟩
                            · rw [if_neg c48] at H
                              have c48b0 : (((rd_T37 l0 x19_1).f1) == 2) = false := beq_eq_false_iff_ne.mpr c48
                              have c48b1 : (((rd_T37 l0 x19_1).f1) != 2) = true := bne_iff_ne.mpr c48
                              by_cases c54 : ((rd_T37 l0 x19_1).f1) = 0
                              · rw [if_pos c54] at H
                                have c54b0 : (((rd_T37 l0 x19_1).f1) == 0) = true := beq_iff_eq.mpr c54
                                have c54b1 : (((rd_T37 l0 x19_1).f1) != 0) = false := bne_eq_false_iff_eq.mpr c54
                                clear c54
                                obtain ⟨ji55, hji55⟩ : ∃ j_ : Int, (mx x156001_27 x14_34) = j_ := ⟨_, rfl⟩
                                replace H : (chancerylaw3_stateOf.l0 kj34 l1 a2 a3 a4 l0 (l0.length : Int) (wrap64 (x19_1 + 1)) a2 ji55 x156002_1 x156003_1) = some (r1, r2, r3, r4) := by first | (rw [hji55] at H; exact H) | (simp only [hji55] at H ⊢; exact H)
                                have hji55_ : (if x156001_27 < x14_34 then x14_34 else x156001_27) = ji55 := hji55
                                have H' := Aside0.mk H
                                clear H
                                have hnb56 := NB157_154.out
                                have hnc56 := NB154_157.out
                                have hnb57 := NB157_155.out
                                have hnc57 := NB155_157.out
                                have hcz58_0 : wc.cell? ⟨gb157, 0, none⟩ = some (.int .i64 ((rd_T37 l0 x19_1).f0)) := (blk_cell BK157.out 0).trans rfl
                                have hcz58_1 : wc.cell? ⟨gb157, 1, none⟩ = some (.int .i64 ((rd_T37 l0 x19_1).f1)) := (blk_cell BK157.out 1).trans rfl
                                have hcz58_2 : wc.cell? ⟨gb157, 2, none⟩ = some (.int .i64 ((rd_T37 l0 x19_1).f2)) := (blk_cell BK157.out 2).trans rfl
                                have hcz58_3 : wc.cell? ⟨gb157, 3, none⟩ = some (.int .i64 ((rd_T37 l0 x19_1).f3)) := (blk_cell BK157.out 3).trans rfl
                                have hcz58_4 : wc.cell? ⟨gb157, 4, none⟩ = some (.int .i64 ((rd_T37 l0 x19_1).f4)) := (blk_cell BK157.out 4).trans rfl
                                have hcz58_5 : wc.cell? ⟨gb157, 5, none⟩ = some (.int .i64 ((rd_T37 l0 x19_1).f5)) := (blk_cell BK157.out 5).trans rfl
                                have hcz58_6 : wc.cell? ⟨gb157, 6, none⟩ = some (.int .i64 ((rd_T37 l0 x19_1).f6)) := (blk_cell BK157.out 6).trans rfl
                                have hfz58_0 := blk_frozen BK157.out 0
                                have hfz58_1 := blk_frozen BK157.out 1
                                have hfz58_2 := blk_frozen BK157.out 2
                                have hfz58_3 := blk_frozen BK157.out 3
                                have hfz58_4 := blk_frozen BK157.out 4
                                have hfz58_5 := blk_frozen BK157.out 5
                                have hfz58_6 := blk_frozen BK157.out 6
                                have hnb59 := NB155_154.out
                                have hnc59 := NB154_155.out
                                have hcz60_0 : wc.cell? ⟨gb155, 0, none⟩ = some (.int .i64 a2) := (blk_cell BK155.out 0).trans rfl
                                have hcz60_1 : wc.cell? ⟨gb155, 1, none⟩ = some (.int .i64 x156001_27) := (blk_cell BK155.out 1).trans rfl
                                have hcz60_2 : wc.cell? ⟨gb155, 2, none⟩ = some (.int .i64 x156002_1) := (blk_cell BK155.out 2).trans rfl
                                have hcz60_3 : wc.cell? ⟨gb155, 3, none⟩ = some (.int .i64 x156003_1) := (blk_cell BK155.out 3).trans rfl
                                have hfz60_0 := blk_frozen BK155.out 0
                                have hfz60_1 := blk_frozen BK155.out 1
                                have hfz60_2 := blk_frozen BK155.out 2
                                have hfz60_3 := blk_frozen BK155.out 3
                                go_wp2
                                repeat (go_quiet (fail); try go_wp2)
                                go_roundg kj34
                                case measure => have := HK1.out; have := HJ13.out; have := HJ27.out; have := HJ34.out; omega
                                case rel => exact ⟨(wrap64 (x19_1 + 1)), (ji55), (x156002_1), (x156003_1), (by first | rfl | (simp; done) | (simp [*]; done)), H', ⟨by have := HK1.out; have := HJ13.out; have := HJ27.out; have := HJ34.out; omega⟩, ⟨by (with_reducible repeat (first | refine blk_drewN ?_ _ | refine blk_drew ?_ | refine blk_alloc ?_ _)); refine blk_far ?_ NB154_155.out _; (with_reducible repeat (first | refine blk_drewN ?_ _ | refine blk_drew ?_ | refine blk_alloc ?_ _)); exact BK154.out⟩, ⟨by (with_reducible repeat (first | refine blk_drewN ?_ _ | refine blk_drew ?_ | refine blk_alloc ?_ _)); refine blk_put (cs := #[.int .i64 a2, .int .i64 x156001_27, .int .i64 x156002_1, .int .i64 x156003_1]) ?_ 1 _ rfl; (with_reducible repeat (first | refine blk_drewN ?_ _ | refine blk_drew ?_ | refine blk_alloc ?_ _)); exact BK155.out⟩, ⟨by repeat (first | (with_reducible first | exact HB.out | apply below_alloc | apply pw_below_drewN | apply below_drew1 | refine below_set ?_ GE154.out | refine below_set ?_ GE155.out | refine below_set ?_ GE157.out) | exact HB.out)⟩⟩
                              · rw [if_neg c54] at H
                                have c54b0 : (((rd_T37 l0 x19_1).f1) == 0) = false := beq_eq_false_iff_ne.mpr c54
                                have c54b1 : (((rd_T37 l0 x19_1).f1) != 0) = true := bne_iff_ne.mpr c54
                                obtain ⟨ji61, hji61⟩ : ∃ j_ : Int, (mn x156001_27 (wrap64 (1000 - x14_34))) = j_ := ⟨_, rfl⟩
                                replace H : (chancerylaw3_stateOf.l0 kj34 l1 a2 a3 a4 l0 (l0.length : Int) (wrap64 (x19_1 + 1)) a2 ji61 x156002_1 x156003_1) = some (r1, r2, r3, r4) := by first | (rw [hji61] at H; exact H) | (simp only [hji61] at H ⊢; exact H)
                                have hji61_ : (if (wrap64 (1000 - x14_34)) < x156001_27 then (wrap64 (1000 - x14_34)) else x156001_27) = ji61 := hji61
                                have H' := Aside0.mk H
                                clear H
                                have hnb62 := NB157_154.out
                                have hnc62 := NB154_157.out
                                have hnb63 := NB157_155.out
                                have hnc63 := NB155_157.out
                                have hcz64_0 : wc.cell? ⟨gb157, 0, none⟩ = some (.int .i64 ((rd_T37 l0 x19_1).f0)) := (blk_cell BK157.out 0).trans rfl
                                have hcz64_1 : wc.cell? ⟨gb157, 1, none⟩ = some (.int .i64 ((rd_T37 l0 x19_1).f1)) := (blk_cell BK157.out 1).trans rfl
                                have hcz64_2 : wc.cell? ⟨gb157, 2, none⟩ = some (.int .i64 ((rd_T37 l0 x19_1).f2)) := (blk_cell BK157.out 2).trans rfl
                                have hcz64_3 : wc.cell? ⟨gb157, 3, none⟩ = some (.int .i64 ((rd_T37 l0 x19_1).f3)) := (blk_cell BK157.out 3).trans rfl
                                have hcz64_4 : wc.cell? ⟨gb157, 4, none⟩ = some (.int .i64 ((rd_T37 l0 x19_1).f4)) := (blk_cell BK157.out 4).trans rfl
                                have hcz64_5 : wc.cell? ⟨gb157, 5, none⟩ = some (.int .i64 ((rd_T37 l0 x19_1).f5)) := (blk_cell BK157.out 5).trans rfl
                                have hcz64_6 : wc.cell? ⟨gb157, 6, none⟩ = some (.int .i64 ((rd_T37 l0 x19_1).f6)) := (blk_cell BK157.out 6).trans rfl
                                have hfz64_0 := blk_frozen BK157.out 0
                                have hfz64_1 := blk_frozen BK157.out 1
                                have hfz64_2 := blk_frozen BK157.out 2
                                have hfz64_3 := blk_frozen BK157.out 3
                                have hfz64_4 := blk_frozen BK157.out 4
                                have hfz64_5 := blk_frozen BK157.out 5
                                have hfz64_6 := blk_frozen BK157.out 6
                                have hnb65 := NB155_154.out
                                have hnc65 := NB154_155.out
                                have hcz66_0 : wc.cell? ⟨gb155, 0, none⟩ = some (.int .i64 a2) := (blk_cell BK155.out 0).trans rfl
                                have hcz66_1 : wc.cell? ⟨gb155, 1, none⟩ = some (.int .i64 x156001_27) := (blk_cell BK155.out 1).trans rfl
                                have hcz66_2 : wc.cell? ⟨gb155, 2, none⟩ = some (.int .i64 x156002_1) := (blk_cell BK155.out 2).trans rfl
                                have hcz66_3 : wc.cell? ⟨gb155, 3, none⟩ = some (.int .i64 x156003_1) := (blk_cell BK155.out 3).trans rfl
                                have hfz66_0 := blk_frozen BK155.out 0
                                have hfz66_1 := blk_frozen BK155.out 1
                                have hfz66_2 := blk_frozen BK155.out 2
                                have hfz66_3 := blk_frozen BK155.out 3
                                go_wp2
                                repeat (go_quiet (fail); try go_wp2)
                                go_roundg kj34
                                case measure => have := HK1.out; have := HJ13.out; have := HJ27.out; have := HJ34.out; omega
                                case rel => exact ⟨(wrap64 (x19_1 + 1)), (ji61), (x156002_1), (x156003_1), (by first | rfl | (simp; done) | (simp [*]; done)), H', ⟨by have := HK1.out; have := HJ13.out; have := HJ27.out; have := HJ34.out; omega⟩, ⟨by (with_reducible repeat (first | refine blk_drewN ?_ _ | refine blk_drew ?_ | refine blk_alloc ?_ _)); refine blk_far ?_ NB154_155.out _; (with_reducible repeat (first | refine blk_drewN ?_ _ | refine blk_drew ?_ | refine blk_alloc ?_ _)); exact BK154.out⟩, ⟨by (with_reducible repeat (first | refine blk_drewN ?_ _ | refine blk_drew ?_ | refine blk_alloc ?_ _)); refine blk_put (cs := #[.int .i64 a2, .int .i64 x156001_27, .int .i64 x156002_1, .int .i64 x156003_1]) ?_ 1 _ rfl; (with_reducible repeat (first | refine blk_drewN ?_ _ | refine blk_drew ?_ | refine blk_alloc ?_ _)); exact BK155.out⟩, ⟨by repeat (first | (with_reducible first | exact HB.out | apply below_alloc | apply pw_below_drewN | apply below_drew1 | refine below_set ?_ GE154.out | refine below_set ?_ GE155.out | refine below_set ?_ GE157.out) | exact HB.out)⟩⟩
            · rw [if_neg c13] at H
              have c13b0 : (((rd_T37 l0 x19_1).f0) == a2) = false := beq_eq_false_iff_ne.mpr c13
              have c13b1 : (((rd_T37 l0 x19_1).f0) != a2) = true := bne_iff_ne.mpr c13
              have H' := Aside0.mk H
              clear H
              have p156 : 0 ≤ (x19_1 : Int) := of_decide_eq_true (by first | (with_reducible assumption) | assumption)
              have q156 : x19_1 < (l0.length : Int) := of_decide_eq_true (by first | (with_reducible assumption) | assumption)
              obtain ⟨ad156, e156, hx156_0, hx156_1, hx156_2, hx156_3, hx156_4, hx156_5, hx156_6⟩ := at_T37 HR0.out x19_1 p156 q156
              cases e156
              replace hx156_0 := (HB.out.cell (World.block_lt_of_cell? w _ hx156_0)).trans hx156_0
              replace hx156_1 := (HB.out.cell (World.block_lt_of_cell? w _ hx156_1)).trans hx156_1
              replace hx156_2 := (HB.out.cell (World.block_lt_of_cell? w _ hx156_2)).trans hx156_2
              replace hx156_3 := (HB.out.cell (World.block_lt_of_cell? w _ hx156_3)).trans hx156_3
              replace hx156_4 := (HB.out.cell (World.block_lt_of_cell? w _ hx156_4)).trans hx156_4
              replace hx156_5 := (HB.out.cell (World.block_lt_of_cell? w _ hx156_5)).trans hx156_5
              replace hx156_6 := (HB.out.cell (World.block_lt_of_cell? w _ hx156_6)).trans hx156_6
              replace p156 := eq_true p156
              replace q156 := eq_true q156
              go_wp2_with (first | ((with_reducible refine gate_dst (N := 13) rfl ?_); refine box_event ?hg (N := 13) ?hd (cs := #[.int .i64 0, .int .i64 0, .int .i64 0, .int .i64 0, .int .i64 0, .int .i64 0, .int .i64 0]) (t := 37) ?hr ?_; (case hd => rfl); (case hg => rfl); (case hr => first | (go_simp; done) | (go_simp; rfl)); intro gb157 hg w67 hbox hb; have n0_ := Aside0.mk (blk_below (g := gb154) (o := .cells #[.int .i64 0, .int .i64 0, .int .i64 0, .int .i64 0] 33 (0, 0)) (by (with_reducible repeat (first | refine blk_drewN ?_ _ | refine blk_drew ?_ | refine blk_alloc ?_ _)); exact BK154.out) hb); have n1_ := Aside0.mk (blk_below (g := gb155) (o := .cells #[.int .i64 a2, .int .i64 x156001_1, .int .i64 x156002_1, .int .i64 x156003_1] 33 (0, 0)) (by (with_reducible repeat (first | refine blk_drewN ?_ _ | refine blk_drew ?_ | refine blk_alloc ?_ _)); exact BK155.out) hb); have n2_ := Aside0.mk (below_step (by repeat (first | (with_reducible first | exact HB.out | apply below_alloc | apply pw_below_drewN | apply below_drew1 | refine below_set ?_ GE154.out | refine below_set ?_ GE155.out) | exact HB.out)) hb); have n3_ := Aside0.mk (hbox); have n4_ := Aside0.mk ((by rw [hg]; exact (below_size (by repeat (first | (with_reducible first | exact HB.out | apply below_alloc | apply pw_below_drewN | apply below_drew1 | refine below_set ?_ GE154.out | refine below_set ?_ GE155.out) | exact HB.out))) : w.heap.size ≤ gb157)); have n5_ := Aside0.mk ((by rw [hg]; exact (below_size (by repeat (first | (with_reducible first | exact HB.out | apply below_alloc | apply pw_below_drewN | apply below_drew1 | refine below_set ?_ GE154.out | refine below_set ?_ GE155.out) | exact HB.out))) : w.heap.size ≤ gb157)); have n6_ := Aside0.mk ((by rw [hg]; exact Nat.ne_of_lt (blk_lt (g := gb154) (o := .cells #[.int .i64 0, .int .i64 0, .int .i64 0, .int .i64 0] 33 (0, 0)) (by (with_reducible repeat (first | refine blk_drewN ?_ _ | refine blk_drew ?_ | refine blk_alloc ?_ _)); exact BK154.out)) : gb154 ≠ gb157)); have n7_ := Aside0.mk ((by rw [hg]; exact Nat.ne_of_gt (blk_lt (g := gb154) (o := .cells #[.int .i64 0, .int .i64 0, .int .i64 0, .int .i64 0] 33 (0, 0)) (by (with_reducible repeat (first | refine blk_drewN ?_ _ | refine blk_drew ?_ | refine blk_alloc ?_ _)); exact BK154.out)) : gb157 ≠ gb154)); have n8_ := Aside0.mk ((by rw [hg]; exact Nat.ne_of_lt (blk_lt (g := gb155) (o := .cells #[.int .i64 a2, .int .i64 x156001_1, .int .i64 x156002_1, .int .i64 x156003_1] 33 (0, 0)) (by (with_reducible repeat (first | refine blk_drewN ?_ _ | refine blk_drew ?_ | refine blk_alloc ?_ _)); exact BK155.out)) : gb155 ≠ gb157)); have n9_ := Aside0.mk ((by rw [hg]; exact Nat.ne_of_gt (blk_lt (g := gb155) (o := .cells #[.int .i64 a2, .int .i64 x156001_1, .int .i64 x156002_1, .int .i64 x156003_1] 33 (0, 0)) (by (with_reducible repeat (first | refine blk_drewN ?_ _ | refine blk_drew ?_ | refine blk_alloc ?_ _)); exact BK155.out)) : gb157 ≠ gb155)); clear BK154; clear BK155; clear HB; have BK154 := n0_; have BK155 := n1_; have HB := n2_; have BK157 := n3_; have GW157 := n4_; have GE157 := n5_; have NB154_157 := n6_; have NB157_154 := n7_; have NB155_157 := n8_; have NB157_155 := n9_; clear n0_ n1_ n2_ n3_ n4_ n5_ n6_ n7_ n8_ n9_; clear hb hbox hg; have hnb68 := NB157_154.out; have hnc68 := NB154_157.out; have hnb69 := NB157_155.out; have hnc69 := NB155_157.out; have hcz70_0 : w67.cell? ⟨gb157, 0, none⟩ = some (.int .i64 0) := (blk_cell BK157.out 0).trans rfl; have hcz70_1 : w67.cell? ⟨gb157, 1, none⟩ = some (.int .i64 0) := (blk_cell BK157.out 1).trans rfl; have hcz70_2 : w67.cell? ⟨gb157, 2, none⟩ = some (.int .i64 0) := (blk_cell BK157.out 2).trans rfl; have hcz70_3 : w67.cell? ⟨gb157, 3, none⟩ = some (.int .i64 0) := (blk_cell BK157.out 3).trans rfl; have hcz70_4 : w67.cell? ⟨gb157, 4, none⟩ = some (.int .i64 0) := (blk_cell BK157.out 4).trans rfl; have hcz70_5 : w67.cell? ⟨gb157, 5, none⟩ = some (.int .i64 0) := (blk_cell BK157.out 5).trans rfl; have hcz70_6 : w67.cell? ⟨gb157, 6, none⟩ = some (.int .i64 0) := (blk_cell BK157.out 6).trans rfl; have hfz70_0 := blk_frozen BK157.out 0; have hfz70_1 := blk_frozen BK157.out 1; have hfz70_2 := blk_frozen BK157.out 2; have hfz70_3 := blk_frozen BK157.out 3; have hfz70_4 := blk_frozen BK157.out 4; have hfz70_5 := blk_frozen BK157.out 5; have hfz70_6 := blk_frozen BK157.out 6))
              repeat (go_quiet (first | ((with_reducible refine gate_dst (N := 13) rfl ?_); refine box_event ?hg (N := 13) ?hd (cs := #[.int .i64 0, .int .i64 0, .int .i64 0, .int .i64 0, .int .i64 0, .int .i64 0, .int .i64 0]) (t := 37) ?hr ?_; (case hd => rfl); (case hg => rfl); (case hr => first | (go_simp; done) | (go_simp; rfl)); intro gb157 hg w67 hbox hb; have n0_ := Aside0.mk (blk_below (g := gb154) (o := .cells #[.int .i64 0, .int .i64 0, .int .i64 0, .int .i64 0] 33 (0, 0)) (by (with_reducible repeat (first | refine blk_drewN ?_ _ | refine blk_drew ?_ | refine blk_alloc ?_ _)); exact BK154.out) hb); have n1_ := Aside0.mk (blk_below (g := gb155) (o := .cells #[.int .i64 a2, .int .i64 x156001_1, .int .i64 x156002_1, .int .i64 x156003_1] 33 (0, 0)) (by (with_reducible repeat (first | refine blk_drewN ?_ _ | refine blk_drew ?_ | refine blk_alloc ?_ _)); exact BK155.out) hb); have n2_ := Aside0.mk (below_step (by repeat (first | (with_reducible first | exact HB.out | apply below_alloc | apply pw_below_drewN | apply below_drew1 | refine below_set ?_ GE154.out | refine below_set ?_ GE155.out) | exact HB.out)) hb); have n3_ := Aside0.mk (hbox); have n4_ := Aside0.mk ((by rw [hg]; exact (below_size (by repeat (first | (with_reducible first | exact HB.out | apply below_alloc | apply pw_below_drewN | apply below_drew1 | refine below_set ?_ GE154.out | refine below_set ?_ GE155.out) | exact HB.out))) : w.heap.size ≤ gb157)); have n5_ := Aside0.mk ((by rw [hg]; exact (below_size (by repeat (first | (with_reducible first | exact HB.out | apply below_alloc | apply pw_below_drewN | apply below_drew1 | refine below_set ?_ GE154.out | refine below_set ?_ GE155.out) | exact HB.out))) : w.heap.size ≤ gb157)); have n6_ := Aside0.mk ((by rw [hg]; exact Nat.ne_of_lt (blk_lt (g := gb154) (o := .cells #[.int .i64 0, .int .i64 0, .int .i64 0, .int .i64 0] 33 (0, 0)) (by (with_reducible repeat (first | refine blk_drewN ?_ _ | refine blk_drew ?_ | refine blk_alloc ?_ _)); exact BK154.out)) : gb154 ≠ gb157)); have n7_ := Aside0.mk ((by rw [hg]; exact Nat.ne_of_gt (blk_lt (g := gb154) (o := .cells #[.int .i64 0, .int .i64 0, .int .i64 0, .int .i64 0] 33 (0, 0)) (by (with_reducible repeat (first | refine blk_drewN ?_ _ | refine blk_drew ?_ | refine blk_alloc ?_ _)); exact BK154.out)) : gb157 ≠ gb154)); have n8_ := Aside0.mk ((by rw [hg]; exact Nat.ne_of_lt (blk_lt (g := gb155) (o := .cells #[.int .i64 a2, .int .i64 x156001_1, .int .i64 x156002_1, .int .i64 x156003_1] 33 (0, 0)) (by (with_reducible repeat (first | refine blk_drewN ?_ _ | refine blk_drew ?_ | refine blk_alloc ?_ _)); exact BK155.out)) : gb155 ≠ gb157)); have n9_ := Aside0.mk ((by rw [hg]; exact Nat.ne_of_gt (blk_lt (g := gb155) (o := .cells #[.int .i64 a2, .int .i64 x156001_1, .int .i64 x156002_1, .int .i64 x156003_1] 33 (0, 0)) (by (with_reducible repeat (first | refine blk_drewN ?_ _ | refine blk_drew ?_ | refine blk_alloc ?_ _)); exact BK155.out)) : gb157 ≠ gb155)); clear BK154; clear BK155; clear HB; have BK154 := n0_; have BK155 := n1_; have HB := n2_; have BK157 := n3_; have GW157 := n4_; have GE157 := n5_; have NB154_157 := n6_; have NB157_154 := n7_; have NB155_157 := n8_; have NB157_155 := n9_; clear n0_ n1_ n2_ n3_ n4_ n5_ n6_ n7_ n8_ n9_; clear hb hbox hg; have hnb68 := NB157_154.out; have hnc68 := NB154_157.out; have hnb69 := NB157_155.out; have hnc69 := NB155_157.out; have hcz70_0 : w67.cell? ⟨gb157, 0, none⟩ = some (.int .i64 0) := (blk_cell BK157.out 0).trans rfl; have hcz70_1 : w67.cell? ⟨gb157, 1, none⟩ = some (.int .i64 0) := (blk_cell BK157.out 1).trans rfl; have hcz70_2 : w67.cell? ⟨gb157, 2, none⟩ = some (.int .i64 0) := (blk_cell BK157.out 2).trans rfl; have hcz70_3 : w67.cell? ⟨gb157, 3, none⟩ = some (.int .i64 0) := (blk_cell BK157.out 3).trans rfl; have hcz70_4 : w67.cell? ⟨gb157, 4, none⟩ = some (.int .i64 0) := (blk_cell BK157.out 4).trans rfl; have hcz70_5 : w67.cell? ⟨gb157, 5, none⟩ = some (.int .i64 0) := (blk_cell BK157.out 5).trans rfl; have hcz70_6 : w67.cell? ⟨gb157, 6, none⟩ = some (.int .i64 0) := (blk_cell BK157.out 6).trans rfl; have hfz70_0 := blk_frozen BK157.out 0; have hfz70_1 := blk_frozen BK157.out 1; have hfz70_2 := blk_frozen BK157.out 2; have hfz70_3 := blk_frozen BK157.out 3; have hfz70_4 := blk_frozen BK157.out 4; have hfz70_5 := blk_frozen BK157.out 5; have hfz70_6 := blk_frozen BK157.out 6)); try go_wp2_with (first | ((with_reducible refine gate_dst (N := 13) rfl ?_); refine box_event ?hg (N := 13) ?hd (cs := #[.int .i64 0, .int .i64 0, .int .i64 0, .int .i64 0, .int .i64 0, .int .i64 0, .int .i64 0]) (t := 37) ?hr ?_; (case hd => rfl); (case hg => rfl); (case hr => first | (go_simp; done) | (go_simp; rfl)); intro gb157 hg w67 hbox hb; have n0_ := Aside0.mk (blk_below (g := gb154) (o := .cells #[.int .i64 0, .int .i64 0, .int .i64 0, .int .i64 0] 33 (0, 0)) (by (with_reducible repeat (first | refine blk_drewN ?_ _ | refine blk_drew ?_ | refine blk_alloc ?_ _)); exact BK154.out) hb); have n1_ := Aside0.mk (blk_below (g := gb155) (o := .cells #[.int .i64 a2, .int .i64 x156001_1, .int .i64 x156002_1, .int .i64 x156003_1] 33 (0, 0)) (by (with_reducible repeat (first | refine blk_drewN ?_ _ | refine blk_drew ?_ | refine blk_alloc ?_ _)); exact BK155.out) hb); have n2_ := Aside0.mk (below_step (by repeat (first | (with_reducible first | exact HB.out | apply below_alloc | apply pw_below_drewN | apply below_drew1 | refine below_set ?_ GE154.out | refine below_set ?_ GE155.out) | exact HB.out)) hb); have n3_ := Aside0.mk (hbox); have n4_ := Aside0.mk ((by rw [hg]; exact (below_size (by repeat (first | (with_reducible first | exact HB.out | apply below_alloc | apply pw_below_drewN | apply below_drew1 | refine below_set ?_ GE154.out | refine below_set ?_ GE155.out) | exact HB.out))) : w.heap.size ≤ gb157)); have n5_ := Aside0.mk ((by rw [hg]; exact (below_size (by repeat (first | (with_reducible first | exact HB.out | apply below_alloc | apply pw_below_drewN | apply below_drew1 | refine below_set ?_ GE154.out | refine below_set ?_ GE155.out) | exact HB.out))) : w.heap.size ≤ gb157)); have n6_ := Aside0.mk ((by rw [hg]; exact Nat.ne_of_lt (blk_lt (g := gb154) (o := .cells #[.int .i64 0, .int .i64 0, .int .i64 0, .int .i64 0] 33 (0, 0)) (by (with_reducible repeat (first | refine blk_drewN ?_ _ | refine blk_drew ?_ | refine blk_alloc ?_ _)); exact BK154.out)) : gb154 ≠ gb157)); have n7_ := Aside0.mk ((by rw [hg]; exact Nat.ne_of_gt (blk_lt (g := gb154) (o := .cells #[.int .i64 0, .int .i64 0, .int .i64 0, .int .i64 0] 33 (0, 0)) (by (with_reducible repeat (first | refine blk_drewN ?_ _ | refine blk_drew ?_ | refine blk_alloc ?_ _)); exact BK154.out)) : gb157 ≠ gb154)); have n8_ := Aside0.mk ((by rw [hg]; exact Nat.ne_of_lt (blk_lt (g := gb155) (o := .cells #[.int .i64 a2, .int .i64 x156001_1, .int .i64 x156002_1, .int .i64 x156003_1] 33 (0, 0)) (by (with_reducible repeat (first | refine blk_drewN ?_ _ | refine blk_drew ?_ | refine blk_alloc ?_ _)); exact BK155.out)) : gb155 ≠ gb157)); have n9_ := Aside0.mk ((by rw [hg]; exact Nat.ne_of_gt (blk_lt (g := gb155) (o := .cells #[.int .i64 a2, .int .i64 x156001_1, .int .i64 x156002_1, .int .i64 x156003_1] 33 (0, 0)) (by (with_reducible repeat (first | refine blk_drewN ?_ _ | refine blk_drew ?_ | refine blk_alloc ?_ _)); exact BK155.out)) : gb157 ≠ gb155)); clear BK154; clear BK155; clear HB; have BK154 := n0_; have BK155 := n1_; have HB := n2_; have BK157 := n3_; have GW157 := n4_; have GE157 := n5_; have NB154_157 := n6_; have NB157_154 := n7_; have NB155_157 := n8_; have NB157_155 := n9_; clear n0_ n1_ n2_ n3_ n4_ n5_ n6_ n7_ n8_ n9_; clear hb hbox hg; have hnb68 := NB157_154.out; have hnc68 := NB154_157.out; have hnb69 := NB157_155.out; have hnc69 := NB155_157.out; have hcz70_0 : w67.cell? ⟨gb157, 0, none⟩ = some (.int .i64 0) := (blk_cell BK157.out 0).trans rfl; have hcz70_1 : w67.cell? ⟨gb157, 1, none⟩ = some (.int .i64 0) := (blk_cell BK157.out 1).trans rfl; have hcz70_2 : w67.cell? ⟨gb157, 2, none⟩ = some (.int .i64 0) := (blk_cell BK157.out 2).trans rfl; have hcz70_3 : w67.cell? ⟨gb157, 3, none⟩ = some (.int .i64 0) := (blk_cell BK157.out 3).trans rfl; have hcz70_4 : w67.cell? ⟨gb157, 4, none⟩ = some (.int .i64 0) := (blk_cell BK157.out 4).trans rfl; have hcz70_5 : w67.cell? ⟨gb157, 5, none⟩ = some (.int .i64 0) := (blk_cell BK157.out 5).trans rfl; have hcz70_6 : w67.cell? ⟨gb157, 6, none⟩ = some (.int .i64 0) := (blk_cell BK157.out 6).trans rfl; have hfz70_0 := blk_frozen BK157.out 0; have hfz70_1 := blk_frozen BK157.out 1; have hfz70_2 := blk_frozen BK157.out 2; have hfz70_3 := blk_frozen BK157.out 3; have hfz70_4 := blk_frozen BK157.out 4; have hfz70_5 := blk_frozen BK157.out 5; have hfz70_6 := blk_frozen BK157.out 6)))
              go_roundg k1
              case measure => have := HK1.out; omega
              case rel => exact ⟨(wrap64 (x19_1 + 1)), (x156001_1), (x156002_1), (x156003_1), (by first | rfl | (simp; done) | (simp [*]; done)), H', ⟨by have := HK1.out; omega⟩, ⟨by (with_reducible repeat (first | refine blk_drewN ?_ _ | refine blk_drew ?_ | refine blk_alloc ?_ _)); refine blk_far ?_ NB154_157.out _; (with_reducible repeat (first | refine blk_drewN ?_ _ | refine blk_drew ?_ | refine blk_alloc ?_ _)); refine blk_far ?_ NB154_157.out _; (with_reducible repeat (first | refine blk_drewN ?_ _ | refine blk_drew ?_ | refine blk_alloc ?_ _)); refine blk_far ?_ NB154_157.out _; (with_reducible repeat (first | refine blk_drewN ?_ _ | refine blk_drew ?_ | refine blk_alloc ?_ _)); refine blk_far ?_ NB154_157.out _; (with_reducible repeat (first | refine blk_drewN ?_ _ | refine blk_drew ?_ | refine blk_alloc ?_ _)); refine blk_far ?_ NB154_157.out _; (with_reducible repeat (first | refine blk_drewN ?_ _ | refine blk_drew ?_ | refine blk_alloc ?_ _)); refine blk_far ?_ NB154_157.out _; (with_reducible repeat (first | refine blk_drewN ?_ _ | refine blk_drew ?_ | refine blk_alloc ?_ _)); refine blk_far ?_ NB154_157.out _; (with_reducible repeat (first | refine blk_drewN ?_ _ | refine blk_drew ?_ | refine blk_alloc ?_ _)); exact BK154.out⟩, ⟨by (with_reducible repeat (first | refine blk_drewN ?_ _ | refine blk_drew ?_ | refine blk_alloc ?_ _)); refine blk_far ?_ NB155_157.out _; (with_reducible repeat (first | refine blk_drewN ?_ _ | refine blk_drew ?_ | refine blk_alloc ?_ _)); refine blk_far ?_ NB155_157.out _; (with_reducible repeat (first | refine blk_drewN ?_ _ | refine blk_drew ?_ | refine blk_alloc ?_ _)); refine blk_far ?_ NB155_157.out _; (with_reducible repeat (first | refine blk_drewN ?_ _ | refine blk_drew ?_ | refine blk_alloc ?_ _)); refine blk_far ?_ NB155_157.out _; (with_reducible repeat (first | refine blk_drewN ?_ _ | refine blk_drew ?_ | refine blk_alloc ?_ _)); refine blk_far ?_ NB155_157.out _; (with_reducible repeat (first | refine blk_drewN ?_ _ | refine blk_drew ?_ | refine blk_alloc ?_ _)); refine blk_far ?_ NB155_157.out _; (with_reducible repeat (first | refine blk_drewN ?_ _ | refine blk_drew ?_ | refine blk_alloc ?_ _)); refine blk_far ?_ NB155_157.out _; (with_reducible repeat (first | refine blk_drewN ?_ _ | refine blk_drew ?_ | refine blk_alloc ?_ _)); exact BK155.out⟩, ⟨by repeat (first | (with_reducible first | exact HB.out | apply below_alloc | apply pw_below_drewN | apply below_drew1 | refine below_set ?_ GE154.out | refine below_set ?_ GE155.out | refine below_set ?_ GE157.out) | exact HB.out)⟩⟩
          · rw [if_neg c12] at H
            exact absurd H (by simp)
        · rw [if_neg c11] at H
          exact absurd H (by simp)
      · rw [if_neg c10] at H
        have c10b0 : decide (x19_1 < (l0.length : Int)) = false := decide_eq_false c10
        clear c10
        by_cases c71 : x156001_1 < 0
        · rw [if_pos c71] at H
          have c71b0 : decide (x156001_1 < 0) = true := decide_eq_true c71
          clear c71
          simp only [Option.some.injEq, Prod.mk.injEq] at H
          obtain ⟨rfl, rfl, rfl, rfl⟩ := H
          have hnb72 := NB155_154.out
          have hnc72 := NB154_155.out
          have hcz73_0 : wr.cell? ⟨gb155, 0, none⟩ = some (.int .i64 a2) := (blk_cell BK155.out 0).trans rfl
          have hcz73_1 : wr.cell? ⟨gb155, 1, none⟩ = some (.int .i64 x156001_1) := (blk_cell BK155.out 1).trans rfl
          have hcz73_2 : wr.cell? ⟨gb155, 2, none⟩ = some (.int .i64 x156002_1) := (blk_cell BK155.out 2).trans rfl
          have hcz73_3 : wr.cell? ⟨gb155, 3, none⟩ = some (.int .i64 x156003_1) := (blk_cell BK155.out 3).trans rfl
          have hfz73_0 := blk_frozen BK155.out 0
          have hfz73_1 := blk_frozen BK155.out 1
          have hfz73_2 := blk_frozen BK155.out 2
          have hfz73_3 := blk_frozen BK155.out 3
          have hcz74_0 : wr.cell? ⟨gb154, 0, none⟩ = some (.int .i64 0) := (blk_cell BK154.out 0).trans rfl
          have hcz74_1 : wr.cell? ⟨gb154, 1, none⟩ = some (.int .i64 0) := (blk_cell BK154.out 1).trans rfl
          have hcz74_2 : wr.cell? ⟨gb154, 2, none⟩ = some (.int .i64 0) := (blk_cell BK154.out 2).trans rfl
          have hcz74_3 : wr.cell? ⟨gb154, 3, none⟩ = some (.int .i64 0) := (blk_cell BK154.out 3).trans rfl
          have hfz74_0 := blk_frozen BK154.out 0
          have hfz74_1 := blk_frozen BK154.out 1
          have hfz74_2 := blk_frozen BK154.out 2
          have hfz74_3 := blk_frozen BK154.out 3
          go_wp2
          repeat (go_quiet (fail); try go_wp2)
          refine bodyPost_ret (results_cell_row rfl _ _ gb154 33 #[.int .i64 a2, .int .i64 1000, .int .i64 x156002_1, .int .i64 x156003_1] (0, 0) _ rfl (by (with_reducible repeat (first | refine blk_drewN ?_ _ | refine blk_drew ?_ | refine blk_alloc ?_ _)); refine blk_put (cs := #[.int .i64 a2, .int .i64 1000, .int .i64 x156002_1, .int .i64 0]) ?_ 3 _ rfl; (with_reducible repeat (first | refine blk_drewN ?_ _ | refine blk_drew ?_ | refine blk_alloc ?_ _)); refine blk_put (cs := #[.int .i64 a2, .int .i64 1000, .int .i64 0, .int .i64 0]) ?_ 2 _ rfl; (with_reducible repeat (first | refine blk_drewN ?_ _ | refine blk_drew ?_ | refine blk_alloc ?_ _)); refine blk_put (cs := #[.int .i64 a2, .int .i64 0, .int .i64 0, .int .i64 0]) ?_ 1 _ rfl; (with_reducible repeat (first | refine blk_drewN ?_ _ | refine blk_drew ?_ | refine blk_alloc ?_ _)); refine blk_put (cs := #[.int .i64 0, .int .i64 0, .int .i64 0, .int .i64 0]) ?_ 0 _ rfl; (with_reducible repeat (first | refine blk_drewN ?_ _ | refine blk_drew ?_ | refine blk_alloc ?_ _)); refine blk_far ?_ NB154_155.out _; (with_reducible repeat (first | refine blk_drewN ?_ _ | refine blk_drew ?_ | refine blk_alloc ?_ _)); exact BK154.out) Try.underlying33 rfl (by kernel_rfl)) rfl ?_
          exact ⟨by first | rfl | (simp [errW_none, errW_some] <;> rfl) | (simp [*, errW_none, errW_some] <;> rfl), by repeat (first | (with_reducible first | exact HB.out | apply below_alloc | apply pw_below_drewN | apply below_drew1 | refine below_set ?_ GE154.out | refine below_set ?_ GE155.out) | exact HB.out)⟩
        · rw [if_neg c71] at H
          have c71b0 : decide (x156001_1 < 0) = false := decide_eq_false c71
          clear c71
          simp only [Option.some.injEq, Prod.mk.injEq] at H
          obtain ⟨rfl, rfl, rfl, rfl⟩ := H
          have hnb75 := NB155_154.out
          have hnc75 := NB154_155.out
          have hcz76_0 : wr.cell? ⟨gb155, 0, none⟩ = some (.int .i64 a2) := (blk_cell BK155.out 0).trans rfl
          have hcz76_1 : wr.cell? ⟨gb155, 1, none⟩ = some (.int .i64 x156001_1) := (blk_cell BK155.out 1).trans rfl
          have hcz76_2 : wr.cell? ⟨gb155, 2, none⟩ = some (.int .i64 x156002_1) := (blk_cell BK155.out 2).trans rfl
          have hcz76_3 : wr.cell? ⟨gb155, 3, none⟩ = some (.int .i64 x156003_1) := (blk_cell BK155.out 3).trans rfl
          have hfz76_0 := blk_frozen BK155.out 0
          have hfz76_1 := blk_frozen BK155.out 1
          have hfz76_2 := blk_frozen BK155.out 2
          have hfz76_3 := blk_frozen BK155.out 3
          have hcz77_0 : wr.cell? ⟨gb154, 0, none⟩ = some (.int .i64 0) := (blk_cell BK154.out 0).trans rfl
          have hcz77_1 : wr.cell? ⟨gb154, 1, none⟩ = some (.int .i64 0) := (blk_cell BK154.out 1).trans rfl
          have hcz77_2 : wr.cell? ⟨gb154, 2, none⟩ = some (.int .i64 0) := (blk_cell BK154.out 2).trans rfl
          have hcz77_3 : wr.cell? ⟨gb154, 3, none⟩ = some (.int .i64 0) := (blk_cell BK154.out 3).trans rfl
          have hfz77_0 := blk_frozen BK154.out 0
          have hfz77_1 := blk_frozen BK154.out 1
          have hfz77_2 := blk_frozen BK154.out 2
          have hfz77_3 := blk_frozen BK154.out 3
          go_wp2
          repeat (go_quiet (fail); try go_wp2)
          refine bodyPost_ret (results_cell_row rfl _ _ gb154 33 #[.int .i64 a2, .int .i64 x156001_1, .int .i64 x156002_1, .int .i64 x156003_1] (0, 0) _ rfl (by (with_reducible repeat (first | refine blk_drewN ?_ _ | refine blk_drew ?_ | refine blk_alloc ?_ _)); refine blk_put (cs := #[.int .i64 a2, .int .i64 x156001_1, .int .i64 x156002_1, .int .i64 0]) ?_ 3 _ rfl; (with_reducible repeat (first | refine blk_drewN ?_ _ | refine blk_drew ?_ | refine blk_alloc ?_ _)); refine blk_put (cs := #[.int .i64 a2, .int .i64 x156001_1, .int .i64 0, .int .i64 0]) ?_ 2 _ rfl; (with_reducible repeat (first | refine blk_drewN ?_ _ | refine blk_drew ?_ | refine blk_alloc ?_ _)); refine blk_put (cs := #[.int .i64 a2, .int .i64 0, .int .i64 0, .int .i64 0]) ?_ 1 _ rfl; (with_reducible repeat (first | refine blk_drewN ?_ _ | refine blk_drew ?_ | refine blk_alloc ?_ _)); refine blk_put (cs := #[.int .i64 0, .int .i64 0, .int .i64 0, .int .i64 0]) ?_ 0 _ rfl; (with_reducible repeat (first | refine blk_drewN ?_ _ | refine blk_drew ?_ | refine blk_alloc ?_ _)); exact BK154.out) Try.underlying33 rfl (by kernel_rfl)) rfl ?_
          exact ⟨by first | rfl | (simp [errW_none, errW_some] <;> rfl) | (simp [*, errW_none, errW_some] <;> rfl), by repeat (first | (with_reducible first | exact HB.out | apply below_alloc | apply pw_below_drewN | apply below_drew1 | refine below_set ?_ GE154.out | refine below_set ?_ GE155.out) | exact HB.out)⟩

end Go.Proofs.Ytmjdeejccmcpnaa.Q
