/- What timeline.Check returns, as a plain Lean function, and that the Go code returns it. (Printed by a program of this session: the kit's print in a patched scratch copy.) -/
import Derived.Test.YtmjdeejccmcpnaaQ0
namespace Go.Proofs.Ytmjdeejccmcpnaa.Q
open Go.RowKit Go.Proofs.YtmjdeejccmcpnaaW.PrintWords Go.Proofs.YtmjdeejccmcpnaaW.PrintLast Go.Proofs.YtmjdeejccmcpnaaW.PrintMore
attribute [local go_sem] max2_int min2_int max_two min_two max_three min_three max_four min_four   -- for this text's walks alone
set_option linter.unusedVariables false
set_option linter.unusedSimpArgs false

/-! ### timeline_Check: function 12 -/
mutual
def timeline_Check.l0 : Nat → List (S37) → Int → Int → Option (Int)
  | 0, _, _, _ => none
  | k + 1, x8, x9, x10 => if x10 < x9 then (if 0 ≤ x10 then (if x10 < (x8.length : Int) then (if ((rd_T37 x8 x10).f1) < 0 then (timeline_Check.j1 k x8 x9 x10 true ((rd_T37 x8 x10).f0) ((rd_T37 x8 x10).f1) ((rd_T37 x8 x10).f2) ((rd_T37 x8 x10).f3) ((rd_T37 x8 x10).f4) ((rd_T37 x8 x10).f5) ((rd_T37 x8 x10).f6)) else (if ((rd_T37 x8 x10).f1) > 2 then (timeline_Check.j1 k x8 x9 x10 true ((rd_T37 x8 x10).f0) ((rd_T37 x8 x10).f1) ((rd_T37 x8 x10).f2) ((rd_T37 x8 x10).f3) ((rd_T37 x8 x10).f4) ((rd_T37 x8 x10).f5) ((rd_T37 x8 x10).f6)) else (if ((rd_T37 x8 x10).f2) < 0 then (timeline_Check.j1 k x8 x9 x10 true ((rd_T37 x8 x10).f0) ((rd_T37 x8 x10).f1) ((rd_T37 x8 x10).f2) ((rd_T37 x8 x10).f3) ((rd_T37 x8 x10).f4) ((rd_T37 x8 x10).f5) ((rd_T37 x8 x10).f6)) else (timeline_Check.j1 k x8 x9 x10 (decide (((rd_T37 x8 x10).f2) > 2)) ((rd_T37 x8 x10).f0) ((rd_T37 x8 x10).f1) ((rd_T37 x8 x10).f2) ((rd_T37 x8 x10).f3) ((rd_T37 x8 x10).f4) ((rd_T37 x8 x10).f5) ((rd_T37 x8 x10).f6))))) else (none)) else (none)) else (some 0)
def timeline_Check.j1 : Nat → List (S37) → Int → Int → Bool → Int → Int → Int → Int → Int → Int → Int → Option (Int)
  | 0, _, _, _, _, _, _, _, _, _, _, _ => none
  | k + 1, x8, x9, x10, x31, x103000, x103001, x103002, x103003, x103004, x103005, x103006 => if x31 = true then (some 8) else (if x103000 < 1 then (timeline_Check.j2 k x8 x9 x10 true x103000 x103001 x103002 x103003 x103004 x103005 x103006) else (if x103000 > 1073741824 then (timeline_Check.j2 k x8 x9 x10 true x103000 x103001 x103002 x103003 x103004 x103005 x103006) else (if x103003 < 0 then (timeline_Check.j2 k x8 x9 x10 true x103000 x103001 x103002 x103003 x103004 x103005 x103006) else (if x103003 > 10000000 then (timeline_Check.j2 k x8 x9 x10 true x103000 x103001 x103002 x103003 x103004 x103005 x103006) else (if x103004 < 0 then (timeline_Check.j2 k x8 x9 x10 true x103000 x103001 x103002 x103003 x103004 x103005 x103006) else (if x103004 > 10000000 then (timeline_Check.j2 k x8 x9 x10 true x103000 x103001 x103002 x103003 x103004 x103005 x103006) else (if x103005 < (-1048576) then (timeline_Check.j2 k x8 x9 x10 true x103000 x103001 x103002 x103003 x103004 x103005 x103006) else (if x103005 > 1048576 then (timeline_Check.j2 k x8 x9 x10 true x103000 x103001 x103002 x103003 x103004 x103005 x103006) else (if x103006 < (-1048576) then (timeline_Check.j2 k x8 x9 x10 true x103000 x103001 x103002 x103003 x103004 x103005 x103006) else (timeline_Check.j2 k x8 x9 x10 (decide (x103006 > 1048576)) x103000 x103001 x103002 x103003 x103004 x103005 x103006))))))))))
def timeline_Check.j2 : Nat → List (S37) → Int → Int → Bool → Int → Int → Int → Int → Int → Int → Int → Option (Int)
  | 0, _, _, _, _, _, _, _, _, _, _, _ => none
  | k + 1, x8, x9, x10, x79, x103000, x103001, x103002, x103003, x103004, x103005, x103006 => if x79 = true then (some 2) else (if x103001 = 2 then (timeline_Check.l0 k x8 x9 (wrap64 (x10 + 1))) else (if x103005 = 0 then (if x103006 = 0 then (timeline_Check.l0 k x8 x9 (wrap64 (x10 + 1))) else (some 4)) else (some 4)))
end
def timeline_Check.f (k : Nat) (l0 : List (S37)) : Option (Int) := if (l0.length : Int) > 200 then (some 3) else (timeline_Check.l0 k l0 (l0.length : Int) 0)
theorem timeline_Check.mono_l : ∀ k, (∀ y0 y1 y2, LeO (timeline_Check.l0 k y0 y1 y2) (timeline_Check.l0 (k + 1) y0 y1 y2)) ∧ (∀ y0 y1 y2 y3 y4 y5 y6 y7 y8 y9 y10, LeO (timeline_Check.j1 k y0 y1 y2 y3 y4 y5 y6 y7 y8 y9 y10) (timeline_Check.j1 (k + 1) y0 y1 y2 y3 y4 y5 y6 y7 y8 y9 y10)) ∧ (∀ y0 y1 y2 y3 y4 y5 y6 y7 y8 y9 y10, LeO (timeline_Check.j2 k y0 y1 y2 y3 y4 y5 y6 y7 y8 y9 y10) (timeline_Check.j2 (k + 1) y0 y1 y2 y3 y4 y5 y6 y7 y8 y9 y10))
  | 0 => ⟨fun _ _ _ r h => by simp [timeline_Check.l0] at h, fun _ _ _ _ _ _ _ _ _ _ _ r h => by simp [timeline_Check.j1] at h, fun _ _ _ _ _ _ _ _ _ _ _ r h => by simp [timeline_Check.j2] at h⟩
  | k + 1 => by
    obtain ⟨ih0, ih1, ih2⟩ := timeline_Check.mono_l k
    refine ⟨?_, ?_, ?_⟩
    · intro y0 y1 y2
      unfold timeline_Check.l0
      repeat' first
      | (with_reducible exact ih0 _ _ _)
      | (with_reducible exact ih1 _ _ _ _ _ _ _ _ _ _ _)
      | (with_reducible exact ih2 _ _ _ _ _ _ _ _ _ _ _)
      | (with_reducible exact LeO.refl _)
      | (with_reducible exact LeO.none _)
      | (with_reducible refine LeO.ite ?_ ?_)
      | (with_reducible refine LeO.bind ?_ (fun _ => ?_))
      | exact ih0 _ _ _
      | exact ih1 _ _ _ _ _ _ _ _ _ _ _
      | exact ih2 _ _ _ _ _ _ _ _ _ _ _
      | exact LeO.none _
      | refine LeO.ite ?_ ?_
      | refine LeO.bind ?_ (fun _ => ?_)
    · intro y0 y1 y2 y3 y4 y5 y6 y7 y8 y9 y10
      unfold timeline_Check.j1
      repeat' first
      | (with_reducible exact ih0 _ _ _)
      | (with_reducible exact ih1 _ _ _ _ _ _ _ _ _ _ _)
      | (with_reducible exact ih2 _ _ _ _ _ _ _ _ _ _ _)
      | (with_reducible exact LeO.refl _)
      | (with_reducible exact LeO.none _)
      | (with_reducible refine LeO.ite ?_ ?_)
      | (with_reducible refine LeO.bind ?_ (fun _ => ?_))
      | exact ih0 _ _ _
      | exact ih1 _ _ _ _ _ _ _ _ _ _ _
      | exact ih2 _ _ _ _ _ _ _ _ _ _ _
      | exact LeO.none _
      | refine LeO.ite ?_ ?_
      | refine LeO.bind ?_ (fun _ => ?_)
    · intro y0 y1 y2 y3 y4 y5 y6 y7 y8 y9 y10
      unfold timeline_Check.j2
      repeat' first
      | (with_reducible exact ih0 _ _ _)
      | (with_reducible exact ih1 _ _ _ _ _ _ _ _ _ _ _)
      | (with_reducible exact ih2 _ _ _ _ _ _ _ _ _ _ _)
      | (with_reducible exact LeO.refl _)
      | (with_reducible exact LeO.none _)
      | (with_reducible refine LeO.ite ?_ ?_)
      | (with_reducible refine LeO.bind ?_ (fun _ => ?_))
      | exact ih0 _ _ _
      | exact ih1 _ _ _ _ _ _ _ _ _ _ _
      | exact ih2 _ _ _ _ _ _ _ _ _ _ _
      | exact LeO.none _
      | refine LeO.ite ?_ ?_
      | refine LeO.bind ?_ (fun _ => ?_)
theorem timeline_Check.mono : ∀ a0 k, LeO (timeline_Check.f k a0) (timeline_Check.f (k + 1) a0) := by
  intro a0 k
  obtain ⟨ih0, ih1, ih2⟩ := timeline_Check.mono_l k
  unfold timeline_Check.f
  repeat' first
      | (with_reducible exact ih0 _ _ _)
      | (with_reducible exact ih1 _ _ _ _ _ _ _ _ _ _ _)
      | (with_reducible exact ih2 _ _ _ _ _ _ _ _ _ _ _)
      | (with_reducible exact LeO.refl _)
      | (with_reducible exact LeO.none _)
      | (with_reducible refine LeO.ite ?_ ?_)
      | (with_reducible refine LeO.bind ?_ (fun _ => ?_))
      | exact ih0 _ _ _
      | exact ih1 _ _ _ _ _ _ _ _ _ _ _
      | exact ih2 _ _ _ _ _ _ _ _ _ _ _
      | exact LeO.none _
      | refine LeO.ite ?_ ?_
      | refine LeO.bind ?_ (fun _ => ?_)
set_option maxHeartbeats 8000000 in
set_option maxRecDepth 100000 in
theorem timeline_Check.calls (k : Nat) (A0 : Option Addr) (c0 : Nat) (l0 : List (S37)) (r : Int) (w : World) (hr0 : Kd.C k37 w A0 l0.length l0) (hc0 : l0.length ≤ c0) (h : timeline_Check.f k l0 = some r) :
    Calls Try.prog 12 #[.slice A0 l0.length c0] w fun e w' => e = .returned (.int .i64 r) ∧ Below w.heap.size w w' := by
  have hu37 := Try.underlying37
  have HR0 := Aside0.mk hr0
  have HC0 := Aside0.mk hc0
  clear hr0 hc0
  have HB := Aside0.mk (Below.refl w.heap.size w)
  have H : (if (l0.length : Int) > 200 then (some 3) else (timeline_Check.l0 k l0 (l0.length : Int) 0)) = some r := h
  clear h
  by_cases c2 : (l0.length : Int) > 200
  · rw [if_pos c2] at H
    have c2b0 : decide (200 < (l0.length : Int)) = true := decide_eq_true c2
    have c2b1 : decide (200 < l0.length) = true := decide_eq_true (by omega)
    clear c2
    obtain rfl := Option.some.inj H
    go_enter Try.func12, Try.ntmps12
    go_wp2
    go_ret
    exact ⟨by first | rfl | (simp [errW_none, errW_some] <;> rfl) | (simp [*, errW_none, errW_some] <;> rfl), by repeat (first | (with_reducible first | exact HB.out | apply below_alloc | apply pw_below_drewN | apply below_drew1) | exact HB.out)⟩
  · rw [if_neg c2] at H
    have c2b0 : decide (200 < (l0.length : Int)) = false := decide_eq_false c2
    have c2b1 : decide (200 < l0.length) = false := decide_eq_false (by omega)
    clear c2
    have H' := Aside0.mk H
    clear H
    go_enter Try.func12, Try.ntmps12
    go_wp2
    go_loopg [10] k (fun kq v10 w' => ∃ (x10_1 : Int), v10 = .int .i64 x10_1 ∧ Aside0 (timeline_Check.l0 kq l0 (l0.length : Int) x10_1 = some r) ∧ Aside0 (kq ≤ k) ∧ Aside0 (Below w.heap.size w w'))
    case atStart => exact ⟨(0), (by first | rfl | (simp; done) | (simp [*]; done)), H', ⟨Nat.le_refl _⟩, ⟨by repeat (first | (with_reducible first | exact HB.out | apply below_alloc | apply pw_below_drewN | apply below_drew1) | exact HB.out)⟩⟩
    case round =>
      clear H'
      try clear c1
      try clear c2
      try clear c2b0
      try clear c2b1
      try clear p2
      obtain ⟨x10_1, rfl, HA, HK1, HB⟩ := hrel
      cases gk with
      | zero => exact absurd HA.out (by simp [timeline_Check.l0])
      | succ k1 =>
        have H := HA.out
        clear HA
        simp only [timeline_Check.l0] at H
        by_cases c3 : x10_1 < (l0.length : Int)
        · rw [if_pos c3] at H
          have c3b0 : decide (x10_1 < (l0.length : Int)) = true := decide_eq_true c3
          clear c3
          by_cases c4 : 0 ≤ x10_1
          · rw [if_pos c4] at H
            have c4b0 : decide (0 ≤ x10_1) = true := decide_eq_true c4
            clear c4
            by_cases c5 : x10_1 < (l0.length : Int)
            · rw [if_pos c5] at H
              have c5b0 : decide (x10_1 < (l0.length : Int)) = true := decide_eq_true c5
              clear c5
              have HC6 := Aside0.mk H
              clear H
              have p101 : 0 ≤ (x10_1 : Int) := of_decide_eq_true (by first | (with_reducible assumption) | assumption)
              have q101 : x10_1 < (l0.length : Int) := of_decide_eq_true (by first | (with_reducible assumption) | assumption)
              obtain ⟨ad101, e101, hx101_0, hx101_1, hx101_2, hx101_3, hx101_4, hx101_5, hx101_6⟩ := at_T37 HR0.out x10_1 p101 q101
              cases e101
              replace hx101_0 := (HB.out.cell (World.block_lt_of_cell? w _ hx101_0)).trans hx101_0
              replace hx101_1 := (HB.out.cell (World.block_lt_of_cell? w _ hx101_1)).trans hx101_1
              replace hx101_2 := (HB.out.cell (World.block_lt_of_cell? w _ hx101_2)).trans hx101_2
              replace hx101_3 := (HB.out.cell (World.block_lt_of_cell? w _ hx101_3)).trans hx101_3
              replace hx101_4 := (HB.out.cell (World.block_lt_of_cell? w _ hx101_4)).trans hx101_4
              replace hx101_5 := (HB.out.cell (World.block_lt_of_cell? w _ hx101_5)).trans hx101_5
              replace hx101_6 := (HB.out.cell (World.block_lt_of_cell? w _ hx101_6)).trans hx101_6
              replace p101 := eq_true p101
              replace q101 := eq_true q101
              go_upto_region 6 with (first | ((with_reducible refine gate_dst (N := 4) rfl ?_); refine box_event ?hg (N := 4) ?hd (cs := #[.int .i64 0, .int .i64 0, .int .i64 0, .int .i64 0, .int .i64 0, .int .i64 0, .int .i64 0]) (t := 37) ?hr ?_; (case hd => rfl); (case hg => rfl); (case hr => first | (go_simp; done) | (go_simp; rfl)); intro gb102 hg w7 hbox hb; have n0_ := Aside0.mk (below_step (by repeat (first | (with_reducible first | exact HB.out | apply below_alloc | apply pw_below_drewN | apply below_drew1) | exact HB.out)) hb); have n1_ := Aside0.mk (hbox); have n2_ := Aside0.mk ((by rw [hg]; exact (below_size (by repeat (first | (with_reducible first | exact HB.out | apply below_alloc | apply pw_below_drewN | apply below_drew1) | exact HB.out))) : w.heap.size ≤ gb102)); have n3_ := Aside0.mk ((by rw [hg]; exact (below_size (by repeat (first | (with_reducible first | exact HB.out | apply below_alloc | apply pw_below_drewN | apply below_drew1) | exact HB.out))) : w.heap.size ≤ gb102)); clear HB; have HB := n0_; have BK102 := n1_; have GW102 := n2_; have GE102 := n3_; clear n0_ n1_ n2_ n3_; clear hb hbox hg; have hcz8_0 : w7.cell? ⟨gb102, 0, none⟩ = some (.int .i64 0) := (blk_cell BK102.out 0).trans rfl; have hcz8_1 : w7.cell? ⟨gb102, 1, none⟩ = some (.int .i64 0) := (blk_cell BK102.out 1).trans rfl; have hcz8_2 : w7.cell? ⟨gb102, 2, none⟩ = some (.int .i64 0) := (blk_cell BK102.out 2).trans rfl; have hcz8_3 : w7.cell? ⟨gb102, 3, none⟩ = some (.int .i64 0) := (blk_cell BK102.out 3).trans rfl; have hcz8_4 : w7.cell? ⟨gb102, 4, none⟩ = some (.int .i64 0) := (blk_cell BK102.out 4).trans rfl; have hcz8_5 : w7.cell? ⟨gb102, 5, none⟩ = some (.int .i64 0) := (blk_cell BK102.out 5).trans rfl; have hcz8_6 : w7.cell? ⟨gb102, 6, none⟩ = some (.int .i64 0) := (blk_cell BK102.out 6).trans rfl; have hfz8_0 := blk_frozen BK102.out 0; have hfz8_1 := blk_frozen BK102.out 1; have hfz8_2 := blk_frozen BK102.out 2; have hfz8_3 := blk_frozen BK102.out 3; have hfz8_4 := blk_frozen BK102.out 4; have hfz8_5 := blk_frozen BK102.out 5; have hfz8_6 := blk_frozen BK102.out 6))
              (try simp only [Act.put, List.setIfInBounds_toArray, List.set_cons_zero, List.set_cons_succ])
              go_cut [31] (fun v31 wc => ∃ (kq : Nat) (x31_5 : Bool), v31 = .bool x31_5 ∧ Aside0 (timeline_Check.j1 kq l0 (l0.length : Int) x10_1 x31_5 ((rd_T37 l0 x10_1).f0) ((rd_T37 l0 x10_1).f1) ((rd_T37 l0 x10_1).f2) ((rd_T37 l0 x10_1).f3) ((rd_T37 l0 x10_1).f4) ((rd_T37 l0 x10_1).f5) ((rd_T37 l0 x10_1).f6) = some r) ∧ Aside0 (kq ≤ k1) ∧ Aside0 (wc.heap[gb102]? = some (.cells #[.int .i64 ((rd_T37 l0 x10_1).f0), .int .i64 ((rd_T37 l0 x10_1).f1), .int .i64 ((rd_T37 l0 x10_1).f2), .int .i64 ((rd_T37 l0 x10_1).f3), .int .i64 ((rd_T37 l0 x10_1).f4), .int .i64 ((rd_T37 l0 x10_1).f5), .int .i64 ((rd_T37 l0 x10_1).f6)] 37 (0, 0))) ∧ Aside0 (Below w.heap.size w wc))
              case first =>
                have H := HC6.out
                clear HC6
                by_cases c9 : ((rd_T37 l0 x10_1).f1) < 0
                · rw [if_pos c9] at H
                  have c9b0 : decide (((rd_T37 l0 x10_1).f1) < 0) = true := decide_eq_true c9
                  clear c9
                  (first | rw [c9b0] | (simp only [i64_w, i32_w]; rw [c9b0]) | skip)
                  have H' := Aside0.mk H
                  clear H
                  have hcz10_0 : w7.cell? ⟨gb102, 0, none⟩ = some (.int .i64 0) := (blk_cell BK102.out 0).trans rfl
                  have hcz10_1 : w7.cell? ⟨gb102, 1, none⟩ = some (.int .i64 0) := (blk_cell BK102.out 1).trans rfl
                  have hcz10_2 : w7.cell? ⟨gb102, 2, none⟩ = some (.int .i64 0) := (blk_cell BK102.out 2).trans rfl
                  have hcz10_3 : w7.cell? ⟨gb102, 3, none⟩ = some (.int .i64 0) := (blk_cell BK102.out 3).trans rfl
                  have hcz10_4 : w7.cell? ⟨gb102, 4, none⟩ = some (.int .i64 0) := (blk_cell BK102.out 4).trans rfl
                  have hcz10_5 : w7.cell? ⟨gb102, 5, none⟩ = some (.int .i64 0) := (blk_cell BK102.out 5).trans rfl
                  have hcz10_6 : w7.cell? ⟨gb102, 6, none⟩ = some (.int .i64 0) := (blk_cell BK102.out 6).trans rfl
                  have hfz10_0 := blk_frozen BK102.out 0
                  have hfz10_1 := blk_frozen BK102.out 1
                  have hfz10_2 := blk_frozen BK102.out 2
                  have hfz10_3 := blk_frozen BK102.out 3
                  have hfz10_4 := blk_frozen BK102.out 4
                  have hfz10_5 := blk_frozen BK102.out 5
                  have hfz10_6 := blk_frozen BK102.out 6
                  go_wp2
                  go_meet
                  case rel => exact ⟨_, (true), (by first | rfl | (simp; done) | (simp [*]; done)), H', ⟨by have := HK1.out; first | omega | exact Nat.le_refl _⟩, ⟨by (with_reducible repeat (first | refine blk_drewN ?_ _ | refine blk_drew ?_ | refine blk_alloc ?_ _)); refine blk_put (cs := #[.int .i64 ((rd_T37 l0 x10_1).f0), .int .i64 ((rd_T37 l0 x10_1).f1), .int .i64 ((rd_T37 l0 x10_1).f2), .int .i64 ((rd_T37 l0 x10_1).f3), .int .i64 ((rd_T37 l0 x10_1).f4), .int .i64 ((rd_T37 l0 x10_1).f5), .int .i64 0]) ?_ 6 _ rfl; (with_reducible repeat (first | refine blk_drewN ?_ _ | refine blk_drew ?_ | refine blk_alloc ?_ _)); refine blk_put (cs := #[.int .i64 ((rd_T37 l0 x10_1).f0), .int .i64 ((rd_T37 l0 x10_1).f1), .int .i64 ((rd_T37 l0 x10_1).f2), .int .i64 ((rd_T37 l0 x10_1).f3), .int .i64 ((rd_T37 l0 x10_1).f4), .int .i64 0, .int .i64 0]) ?_ 5 _ rfl; (with_reducible repeat (first | refine blk_drewN ?_ _ | refine blk_drew ?_ | refine blk_alloc ?_ _)); refine blk_put (cs := #[.int .i64 ((rd_T37 l0 x10_1).f0), .int .i64 ((rd_T37 l0 x10_1).f1), .int .i64 ((rd_T37 l0 x10_1).f2), .int .i64 ((rd_T37 l0 x10_1).f3), .int .i64 0, .int .i64 0, .int .i64 0]) ?_ 4 _ rfl; (with_reducible repeat (first | refine blk_drewN ?_ _ | refine blk_drew ?_ | refine blk_alloc ?_ _)); refine blk_put (cs := #[.int .i64 ((rd_T37 l0 x10_1).f0), .int .i64 ((rd_T37 l0 x10_1).f1), .int .i64 ((rd_T37 l0 x10_1).f2), .int .i64 0, .int .i64 0, .int .i64 0, .int .i64 0]) ?_ 3 _ rfl; (with_reducible repeat (first | refine blk_drewN ?_ _ | refine blk_drew ?_ | refine blk_alloc ?_ _)); refine blk_put (cs := #[.int .i64 ((rd_T37 l0 x10_1).f0), .int .i64 ((rd_T37 l0 x10_1).f1), .int .i64 0, .int .i64 0, .int .i64 0, .int .i64 0, .int .i64 0]) ?_ 2 _ rfl; (with_reducible repeat (first | refine blk_drewN ?_ _ | refine blk_drew ?_ | refine blk_alloc ?_ _)); refine blk_put (cs := #[.int .i64 ((rd_T37 l0 x10_1).f0), .int .i64 0, .int .i64 0, .int .i64 0, .int .i64 0, .int .i64 0, .int .i64 0]) ?_ 1 _ rfl; (with_reducible repeat (first | refine blk_drewN ?_ _ | refine blk_drew ?_ | refine blk_alloc ?_ _)); refine blk_put (cs := #[.int .i64 0, .int .i64 0, .int .i64 0, .int .i64 0, .int .i64 0, .int .i64 0, .int .i64 0]) ?_ 0 _ rfl; (with_reducible repeat (first | refine blk_drewN ?_ _ | refine blk_drew ?_ | refine blk_alloc ?_ _)); exact BK102.out⟩, ⟨by repeat (first | (with_reducible first | exact HB.out | apply below_alloc | apply pw_below_drewN | apply below_drew1 | refine below_set ?_ GE102.out) | exact HB.out)⟩⟩
                · rw [if_neg c9] at H
                  have c9b0 : decide (((rd_T37 l0 x10_1).f1) < 0) = false := decide_eq_false c9
                  clear c9
                  (first | rw [c9b0] | (simp only [i64_w, i32_w]; rw [c9b0]) | skip)
                  by_cases c11 : ((rd_T37 l0 x10_1).f1) > 2
                  · rw [if_pos c11] at H
                    have c11b0 : decide (2 < ((rd_T37 l0 x10_1).f1)) = true := decide_eq_true c11
                    clear c11
                    have H' := Aside0.mk H
                    clear H
                    have hcz12_0 : w7.cell? ⟨gb102, 0, none⟩ = some (.int .i64 0) := (blk_cell BK102.out 0).trans rfl
                    have hcz12_1 : w7.cell? ⟨gb102, 1, none⟩ = some (.int .i64 0) := (blk_cell BK102.out 1).trans rfl
                    have hcz12_2 : w7.cell? ⟨gb102, 2, none⟩ = some (.int .i64 0) := (blk_cell BK102.out 2).trans rfl
                    have hcz12_3 : w7.cell? ⟨gb102, 3, none⟩ = some (.int .i64 0) := (blk_cell BK102.out 3).trans rfl
                    have hcz12_4 : w7.cell? ⟨gb102, 4, none⟩ = some (.int .i64 0) := (blk_cell BK102.out 4).trans rfl
                    have hcz12_5 : w7.cell? ⟨gb102, 5, none⟩ = some (.int .i64 0) := (blk_cell BK102.out 5).trans rfl
                    have hcz12_6 : w7.cell? ⟨gb102, 6, none⟩ = some (.int .i64 0) := (blk_cell BK102.out 6).trans rfl
                    have hfz12_0 := blk_frozen BK102.out 0
                    have hfz12_1 := blk_frozen BK102.out 1
                    have hfz12_2 := blk_frozen BK102.out 2
                    have hfz12_3 := blk_frozen BK102.out 3
                    have hfz12_4 := blk_frozen BK102.out 4
                    have hfz12_5 := blk_frozen BK102.out 5
                    have hfz12_6 := blk_frozen BK102.out 6
                    go_wp2
                    go_meet
                    case rel => exact ⟨_, (true), (by first | rfl | (simp; done) | (simp [*]; done)), H', ⟨by have := HK1.out; first | omega | exact Nat.le_refl _⟩, ⟨by (with_reducible repeat (first | refine blk_drewN ?_ _ | refine blk_drew ?_ | refine blk_alloc ?_ _)); refine blk_put (cs := #[.int .i64 ((rd_T37 l0 x10_1).f0), .int .i64 ((rd_T37 l0 x10_1).f1), .int .i64 ((rd_T37 l0 x10_1).f2), .int .i64 ((rd_T37 l0 x10_1).f3), .int .i64 ((rd_T37 l0 x10_1).f4), .int .i64 ((rd_T37 l0 x10_1).f5), .int .i64 0]) ?_ 6 _ rfl; (with_reducible repeat (first | refine blk_drewN ?_ _ | refine blk_drew ?_ | refine blk_alloc ?_ _)); refine blk_put (cs := #[.int .i64 ((rd_T37 l0 x10_1).f0), .int .i64 ((rd_T37 l0 x10_1).f1), .int .i64 ((rd_T37 l0 x10_1).f2), .int .i64 ((rd_T37 l0 x10_1).f3), .int .i64 ((rd_T37 l0 x10_1).f4), .int .i64 0, .int .i64 0]) ?_ 5 _ rfl; (with_reducible repeat (first | refine blk_drewN ?_ _ | refine blk_drew ?_ | refine blk_alloc ?_ _)); refine blk_put (cs := #[.int .i64 ((rd_T37 l0 x10_1).f0), .int .i64 ((rd_T37 l0 x10_1).f1), .int .i64 ((rd_T37 l0 x10_1).f2), .int .i64 ((rd_T37 l0 x10_1).f3), .int .i64 0, .int .i64 0, .int .i64 0]) ?_ 4 _ rfl; (with_reducible repeat (first | refine blk_drewN ?_ _ | refine blk_drew ?_ | refine blk_alloc ?_ _)); refine blk_put (cs := #[.int .i64 ((rd_T37 l0 x10_1).f0), .int .i64 ((rd_T37 l0 x10_1).f1), .int .i64 ((rd_T37 l0 x10_1).f2), .int .i64 0, .int .i64 0, .int .i64 0, .int .i64 0]) ?_ 3 _ rfl; (with_reducible repeat (first | refine blk_drewN ?_ _ | refine blk_drew ?_ | refine blk_alloc ?_ _)); refine blk_put (cs := #[.int .i64 ((rd_T37 l0 x10_1).f0), .int .i64 ((rd_T37 l0 x10_1).f1), .int .i64 0, .int .i64 0, .int .i64 0, .int .i64 0, .int .i64 0]) ?_ 2 _ rfl; (with_reducible repeat (first | refine blk_drewN ?_ _ | refine blk_drew ?_ | refine blk_alloc ?_ _)); refine blk_put (cs := #[.int .i64 ((rd_T37 l0 x10_1).f0), .int .i64 0, .int .i64 0, .int .i64 0, .int .i64 0, .int .i64 0, .int .i64 0]) ?_ 1 _ rfl; (with_reducible repeat (first | refine blk_drewN ?_ _ | refine blk_drew ?_ | refine blk_alloc ?_ _)); refine blk_put (cs := #[.int .i64 0, .int .i64 0, .int .i64 0, .int .i64 0, .int .i64 0, .int .i64 0, .int .i64 0]) ?_ 0 _ rfl; (with_reducible repeat (first | refine blk_drewN ?_ _ | refine blk_drew ?_ | refine blk_alloc ?_ _)); exact BK102.out⟩, ⟨by repeat (first | (with_reducible first | exact HB.out | apply below_alloc | apply pw_below_drewN | apply below_drew1 | refine below_set ?_ GE102.out) | exact HB.out)⟩⟩
                  · rw [if_neg c11] at H
                    have c11b0 : decide (2 < ((rd_T37 l0 x10_1).f1)) = false := decide_eq_false c11
                    clear c11
                    by_cases c13 : ((rd_T37 l0 x10_1).f2) < 0
                    · rw [if_pos c13] at H
                      have c13b0 : decide (((rd_T37 l0 x10_1).f2) < 0) = true := decide_eq_true c13
                      clear c13
                      have H' := Aside0.mk H
                      clear H
                      have hcz14_0 : w7.cell? ⟨gb102, 0, none⟩ = some (.int .i64 0) := (blk_cell BK102.out 0).trans rfl
                      have hcz14_1 : w7.cell? ⟨gb102, 1, none⟩ = some (.int .i64 0) := (blk_cell BK102.out 1).trans rfl
                      have hcz14_2 : w7.cell? ⟨gb102, 2, none⟩ = some (.int .i64 0) := (blk_cell BK102.out 2).trans rfl
                      have hcz14_3 : w7.cell? ⟨gb102, 3, none⟩ = some (.int .i64 0) := (blk_cell BK102.out 3).trans rfl
                      have hcz14_4 : w7.cell? ⟨gb102, 4, none⟩ = some (.int .i64 0) := (blk_cell BK102.out 4).trans rfl
                      have hcz14_5 : w7.cell? ⟨gb102, 5, none⟩ = some (.int .i64 0) := (blk_cell BK102.out 5).trans rfl
                      have hcz14_6 : w7.cell? ⟨gb102, 6, none⟩ = some (.int .i64 0) := (blk_cell BK102.out 6).trans rfl
                      have hfz14_0 := blk_frozen BK102.out 0
                      have hfz14_1 := blk_frozen BK102.out 1
                      have hfz14_2 := blk_frozen BK102.out 2
                      have hfz14_3 := blk_frozen BK102.out 3
                      have hfz14_4 := blk_frozen BK102.out 4
                      have hfz14_5 := blk_frozen BK102.out 5
                      have hfz14_6 := blk_frozen BK102.out 6
                      go_wp2
                      go_meet
                      case rel => exact ⟨_, (true), (by first | rfl | (simp; done) | (simp [*]; done)), H', ⟨by have := HK1.out; first | omega | exact Nat.le_refl _⟩, ⟨by (with_reducible repeat (first | refine blk_drewN ?_ _ | refine blk_drew ?_ | refine blk_alloc ?_ _)); refine blk_put (cs := #[.int .i64 ((rd_T37 l0 x10_1).f0), .int .i64 ((rd_T37 l0 x10_1).f1), .int .i64 ((rd_T37 l0 x10_1).f2), .int .i64 ((rd_T37 l0 x10_1).f3), .int .i64 ((rd_T37 l0 x10_1).f4), .int .i64 ((rd_T37 l0 x10_1).f5), .int .i64 0]) ?_ 6 _ rfl; (with_reducible repeat (first | refine blk_drewN ?_ _ | refine blk_drew ?_ | refine blk_alloc ?_ _)); refine blk_put (cs := #[.int .i64 ((rd_T37 l0 x10_1).f0), .int .i64 ((rd_T37 l0 x10_1).f1), .int .i64 ((rd_T37 l0 x10_1).f2), .int .i64 ((rd_T37 l0 x10_1).f3), .int .i64 ((rd_T37 l0 x10_1).f4), .int .i64 0, .int .i64 0]) ?_ 5 _ rfl; (with_reducible repeat (first | refine blk_drewN ?_ _ | refine blk_drew ?_ | refine blk_alloc ?_ _)); refine blk_put (cs := #[.int .i64 ((rd_T37 l0 x10_1).f0), .int .i64 ((rd_T37 l0 x10_1).f1), .int .i64 ((rd_T37 l0 x10_1).f2), .int .i64 ((rd_T37 l0 x10_1).f3), .int .i64 0, .int .i64 0, .int .i64 0]) ?_ 4 _ rfl; (with_reducible repeat (first | refine blk_drewN ?_ _ | refine blk_drew ?_ | refine blk_alloc ?_ _)); refine blk_put (cs := #[.int .i64 ((rd_T37 l0 x10_1).f0), .int .i64 ((rd_T37 l0 x10_1).f1), .int .i64 ((rd_T37 l0 x10_1).f2), .int .i64 0, .int .i64 0, .int .i64 0, .int .i64 0]) ?_ 3 _ rfl; (with_reducible repeat (first | refine blk_drewN ?_ _ | refine blk_drew ?_ | refine blk_alloc ?_ _)); refine blk_put (cs := #[.int .i64 ((rd_T37 l0 x10_1).f0), .int .i64 ((rd_T37 l0 x10_1).f1), .int .i64 0, .int .i64 0, .int .i64 0, .int .i64 0, .int .i64 0]) ?_ 2 _ rfl; (with_reducible repeat (first | refine blk_drewN ?_ _ | refine blk_drew ?_ | refine blk_alloc ?_ _)); refine blk_put (cs := #[.int .i64 ((rd_T37 l0 x10_1).f0), .int .i64 0, .int .i64 0, .int .i64 0, .int .i64 0, .int .i64 0, .int .i64 0]) ?_ 1 _ rfl; (with_reducible repeat (first | refine blk_drewN ?_ _ | refine blk_drew ?_ | refine blk_alloc ?_ _)); refine blk_put (cs := #[.int .i64 0, .int .i64 0, .int .i64 0, .int .i64 0, .int .i64 0, .int .i64 0, .int .i64 0]) ?_ 0 _ rfl; (with_reducible repeat (first | refine blk_drewN ?_ _ | refine blk_drew ?_ | refine blk_alloc ?_ _)); exact BK102.out⟩, ⟨by repeat (first | (with_reducible first | exact HB.out | apply below_alloc | apply pw_below_drewN | apply below_drew1 | refine below_set ?_ GE102.out) | exact HB.out)⟩⟩
                    · rw [if_neg c13] at H
                      have c13b0 : decide (((rd_T37 l0 x10_1).f2) < 0) = false := decide_eq_false c13
                      clear c13
                      have H' := Aside0.mk H
                      clear H
                      have hcz15_0 : w7.cell? ⟨gb102, 0, none⟩ = some (.int .i64 0) := (blk_cell BK102.out 0).trans rfl
                      have hcz15_1 : w7.cell? ⟨gb102, 1, none⟩ = some (.int .i64 0) := (blk_cell BK102.out 1).trans rfl
                      have hcz15_2 : w7.cell? ⟨gb102, 2, none⟩ = some (.int .i64 0) := (blk_cell BK102.out 2).trans rfl
                      have hcz15_3 : w7.cell? ⟨gb102, 3, none⟩ = some (.int .i64 0) := (blk_cell BK102.out 3).trans rfl
                      have hcz15_4 : w7.cell? ⟨gb102, 4, none⟩ = some (.int .i64 0) := (blk_cell BK102.out 4).trans rfl
                      have hcz15_5 : w7.cell? ⟨gb102, 5, none⟩ = some (.int .i64 0) := (blk_cell BK102.out 5).trans rfl
                      have hcz15_6 : w7.cell? ⟨gb102, 6, none⟩ = some (.int .i64 0) := (blk_cell BK102.out 6).trans rfl
                      have hfz15_0 := blk_frozen BK102.out 0
                      have hfz15_1 := blk_frozen BK102.out 1
                      have hfz15_2 := blk_frozen BK102.out 2
                      have hfz15_3 := blk_frozen BK102.out 3
                      have hfz15_4 := blk_frozen BK102.out 4
                      have hfz15_5 := blk_frozen BK102.out 5
                      have hfz15_6 := blk_frozen BK102.out 6
                      go_wp2
                      go_meet
                      case rel => exact ⟨_, (decide (((rd_T37 l0 x10_1).f2) > 2)), (by first | rfl | (simp; done) | (simp [*]; done)), H', ⟨by have := HK1.out; first | omega | exact Nat.le_refl _⟩, ⟨by (with_reducible repeat (first | refine blk_drewN ?_ _ | refine blk_drew ?_ | refine blk_alloc ?_ _)); refine blk_put (cs := #[.int .i64 ((rd_T37 l0 x10_1).f0), .int .i64 ((rd_T37 l0 x10_1).f1), .int .i64 ((rd_T37 l0 x10_1).f2), .int .i64 ((rd_T37 l0 x10_1).f3), .int .i64 ((rd_T37 l0 x10_1).f4), .int .i64 ((rd_T37 l0 x10_1).f5), .int .i64 0]) ?_ 6 _ rfl; (with_reducible repeat (first | refine blk_drewN ?_ _ | refine blk_drew ?_ | refine blk_alloc ?_ _)); refine blk_put (cs := #[.int .i64 ((rd_T37 l0 x10_1).f0), .int .i64 ((rd_T37 l0 x10_1).f1), .int .i64 ((rd_T37 l0 x10_1).f2), .int .i64 ((rd_T37 l0 x10_1).f3), .int .i64 ((rd_T37 l0 x10_1).f4), .int .i64 0, .int .i64 0]) ?_ 5 _ rfl; (with_reducible repeat (first | refine blk_drewN ?_ _ | refine blk_drew ?_ | refine blk_alloc ?_ _)); refine blk_put (cs := #[.int .i64 ((rd_T37 l0 x10_1).f0), .int .i64 ((rd_T37 l0 x10_1).f1), .int .i64 ((rd_T37 l0 x10_1).f2), .int .i64 ((rd_T37 l0 x10_1).f3), .int .i64 0, .int .i64 0, .int .i64 0]) ?_ 4 _ rfl; (with_reducible repeat (first | refine blk_drewN ?_ _ | refine blk_drew ?_ | refine blk_alloc ?_ _)); refine blk_put (cs := #[.int .i64 ((rd_T37 l0 x10_1).f0), .int .i64 ((rd_T37 l0 x10_1).f1), .int .i64 ((rd_T37 l0 x10_1).f2), .int .i64 0, .int .i64 0, .int .i64 0, .int .i64 0]) ?_ 3 _ rfl; (with_reducible repeat (first | refine blk_drewN ?_ _ | refine blk_drew ?_ | refine blk_alloc ?_ _)); refine blk_put (cs := #[.int .i64 ((rd_T37 l0 x10_1).f0), .int .i64 ((rd_T37 l0 x10_1).f1), .int .i64 0, .int .i64 0, .int .i64 0, .int .i64 0, .int .i64 0]) ?_ 2 _ rfl; (with_reducible repeat (first | refine blk_drewN ?_ _ | refine blk_drew ?_ | refine blk_alloc ?_ _)); refine blk_put (cs := #[.int .i64 ((rd_T37 l0 x10_1).f0), .int .i64 0, .int .i64 0, .int .i64 0, .int .i64 0, .int .i64 0, .int .i64 0]) ?_ 1 _ rfl; (with_reducible repeat (first | refine blk_drewN ?_ _ | refine blk_drew ?_ | refine blk_alloc ?_ _)); refine blk_put (cs := #[.int .i64 0, .int .i64 0, .int .i64 0, .int .i64 0, .int .i64 0, .int .i64 0, .int .i64 0]) ?_ 0 _ rfl; (with_reducible repeat (first | refine blk_drewN ?_ _ | refine blk_drew ?_ | refine blk_alloc ?_ _)); exact BK102.out⟩, ⟨by repeat (first | (with_reducible first | exact HB.out | apply below_alloc | apply pw_below_drewN | apply below_drew1 | refine below_set ?_ GE102.out) | exact HB.out)⟩⟩
              case rest =>
                clear HC6
                try clear c1
                try clear p1
                try clear q1
                try clear hx1
                try clear c2
                try clear c2b0
                try clear c2b1
                try clear p2
                try clear c3
                try clear c3b0
                try clear c4
                try clear c4b0
                try clear c5
                try clear c5b0
                try clear c9
                try clear c9b0
                try clear p10
                try clear q10
                try clear hx10
                try clear c11
                try clear c11b0
                try clear c12
                try clear c13
                try clear c13b0
                try clear hcz10_0
                try clear hcz10_1
                try clear hcz10_2
                try clear hcz10_3
                try clear hcz10_4
                try clear hcz10_5
                try clear hcz10_6
                try clear hcz12_0
                try clear hcz12_1
                try clear hcz12_2
                try clear hcz12_3
                try clear hcz12_4
                try clear hcz12_5
                try clear hcz12_6
                try clear hcz14_0
                try clear hcz14_1
                try clear hcz14_2
                try clear hcz14_3
                try clear hcz14_4
                try clear hcz14_5
                try clear hcz14_6
                try clear hcz15_0
                try clear hcz15_1
                try clear hcz15_2
                try clear hcz15_3
                try clear hcz15_4
                try clear hcz15_5
                try clear hcz15_6
                try clear hcz8_0
                try clear hcz8_1
                try clear hcz8_2
                try clear hcz8_3
                try clear hcz8_4
                try clear hcz8_5
                try clear hcz8_6
                try clear hfz10_0
                try clear hfz10_1
                try clear hfz10_2
                try clear hfz10_3
                try clear hfz10_4
                try clear hfz10_5
                try clear hfz10_6
                try clear hfz12_0
                try clear hfz12_1
                try clear hfz12_2
                try clear hfz12_3
                try clear hfz12_4
                try clear hfz12_5
                try clear hfz12_6
                try clear hfz14_0
                try clear hfz14_1
                try clear hfz14_2
                try clear hfz14_3
                try clear hfz14_4
                try clear hfz14_5
                try clear hfz14_6
                try clear hfz15_0
                try clear hfz15_1
                try clear hfz15_2
                try clear hfz15_3
                try clear hfz15_4
                try clear hfz15_5
                try clear hfz15_6
                try clear hfz8_0
                try clear hfz8_1
                try clear hfz8_2
                try clear hfz8_3
                try clear hfz8_4
                try clear hfz8_5
                try clear hfz8_6
                try clear hx101_0
                try clear hx101_1
                try clear hx101_2
                try clear hx101_3
                try clear hx101_4
                try clear hx101_5
                try clear hx101_6
                try clear p101
                try clear p2
                try clear q101
                obtain ⟨kq, x31_5, rfl, HA, HJ5, BK102, HB⟩ := hcut
                cases kq with
                | zero => exact absurd HA.out (by simp [timeline_Check.j1])
                | succ kj5 =>
                  have H := HA.out
                  clear HA
                  simp only [timeline_Check.j1] at H
                  by_cases c16 : x31_5 = true
                  · subst c16
                    have H1 : (some 8) = some r := by rw [if_pos rfl] at H; exact H
                    clear H
                    have H := H1
                    clear H1
                    obtain rfl := Option.some.inj H
                    go_wp2
                    go_ret
                    exact ⟨by first | rfl | (simp [errW_none, errW_some] <;> rfl) | (simp [*, errW_none, errW_some] <;> rfl), by repeat (first | (with_reducible first | exact HB.out | apply below_alloc | apply pw_below_drewN | apply below_drew1 | refine below_set ?_ GE102.out) | exact HB.out)⟩
                  · replace c16 := Bool.eq_false_iff.mpr c16
                    subst c16
                    have H1 : (if ((rd_T37 l0 x10_1).f0) < 1 then (timeline_Check.j2 kj5 l0 (l0.length : Int) x10_1 true ((rd_T37 l0 x10_1).f0) ((rd_T37 l0 x10_1).f1) ((rd_T37 l0 x10_1).f2) ((rd_T37 l0 x10_1).f3) ((rd_T37 l0 x10_1).f4) ((rd_T37 l0 x10_1).f5) ((rd_T37 l0 x10_1).f6)) else (if ((rd_T37 l0 x10_1).f0) > 1073741824 then (timeline_Check.j2 kj5 l0 (l0.length : Int) x10_1 true ((rd_T37 l0 x10_1).f0) ((rd_T37 l0 x10_1).f1) ((rd_T37 l0 x10_1).f2) ((rd_T37 l0 x10_1).f3) ((rd_T37 l0 x10_1).f4) ((rd_T37 l0 x10_1).f5) ((rd_T37 l0 x10_1).f6)) else (if ((rd_T37 l0 x10_1).f3) < 0 then (timeline_Check.j2 kj5 l0 (l0.length : Int) x10_1 true ((rd_T37 l0 x10_1).f0) ((rd_T37 l0 x10_1).f1) ((rd_T37 l0 x10_1).f2) ((rd_T37 l0 x10_1).f3) ((rd_T37 l0 x10_1).f4) ((rd_T37 l0 x10_1).f5) ((rd_T37 l0 x10_1).f6)) else (if ((rd_T37 l0 x10_1).f3) > 10000000 then (timeline_Check.j2 kj5 l0 (l0.length : Int) x10_1 true ((rd_T37 l0 x10_1).f0) ((rd_T37 l0 x10_1).f1) ((rd_T37 l0 x10_1).f2) ((rd_T37 l0 x10_1).f3) ((rd_T37 l0 x10_1).f4) ((rd_T37 l0 x10_1).f5) ((rd_T37 l0 x10_1).f6)) else (if ((rd_T37 l0 x10_1).f4) < 0 then (timeline_Check.j2 kj5 l0 (l0.length : Int) x10_1 true ((rd_T37 l0 x10_1).f0) ((rd_T37 l0 x10_1).f1) ((rd_T37 l0 x10_1).f2) ((rd_T37 l0 x10_1).f3) ((rd_T37 l0 x10_1).f4) ((rd_T37 l0 x10_1).f5) ((rd_T37 l0 x10_1).f6)) else (if ((rd_T37 l0 x10_1).f4) > 10000000 then (timeline_Check.j2 kj5 l0 (l0.length : Int) x10_1 true ((rd_T37 l0 x10_1).f0) ((rd_T37 l0 x10_1).f1) ((rd_T37 l0 x10_1).f2) ((rd_T37 l0 x10_1).f3) ((rd_T37 l0 x10_1).f4) ((rd_T37 l0 x10_1).f5) ((rd_T37 l0 x10_1).f6)) else (if ((rd_T37 l0 x10_1).f5) < (-1048576) then (timeline_Check.j2 kj5 l0 (l0.length : Int) x10_1 true ((rd_T37 l0 x10_1).f0) ((rd_T37 l0 x10_1).f1) ((rd_T37 l0 x10_1).f2) ((rd_T37 l0 x10_1).f3) ((rd_T37 l0 x10_1).f4) ((rd_T37 l0 x10_1).f5) ((rd_T37 l0 x10_1).f6)) else (if ((rd_T37 l0 x10_1).f5) > 1048576 then (timeline_Check.j2 kj5 l0 (l0.length : Int) x10_1 true ((rd_T37 l0 x10_1).f0) ((rd_T37 l0 x10_1).f1) ((rd_T37 l0 x10_1).f2) ((rd_T37 l0 x10_1).f3) ((rd_T37 l0 x10_1).f4) ((rd_T37 l0 x10_1).f5) ((rd_T37 l0 x10_1).f6)) else (if ((rd_T37 l0 x10_1).f6) < (-1048576) then (timeline_Check.j2 kj5 l0 (l0.length : Int) x10_1 true ((rd_T37 l0 x10_1).f0) ((rd_T37 l0 x10_1).f1) ((rd_T37 l0 x10_1).f2) ((rd_T37 l0 x10_1).f3) ((rd_T37 l0 x10_1).f4) ((rd_T37 l0 x10_1).f5) ((rd_T37 l0 x10_1).f6)) else (timeline_Check.j2 kj5 l0 (l0.length : Int) x10_1 (decide (((rd_T37 l0 x10_1).f6) > 1048576)) ((rd_T37 l0 x10_1).f0) ((rd_T37 l0 x10_1).f1) ((rd_T37 l0 x10_1).f2) ((rd_T37 l0 x10_1).f3) ((rd_T37 l0 x10_1).f4) ((rd_T37 l0 x10_1).f5) ((rd_T37 l0 x10_1).f6))))))))))) = some r := by rw [if_neg (show ¬ (false = true) by decide)] at H; exact H
                    clear H
                    have H := H1
                    clear H1
                    have HC17 := Aside0.mk H
                    clear H
                    go_upto_region 8 with (fail)
                    go_cut [79] (fun v79 wc => ∃ (kq : Nat) (x79_16 : Bool), v79 = .bool x79_16 ∧ Aside0 (timeline_Check.j2 kq l0 (l0.length : Int) x10_1 x79_16 ((rd_T37 l0 x10_1).f0) ((rd_T37 l0 x10_1).f1) ((rd_T37 l0 x10_1).f2) ((rd_T37 l0 x10_1).f3) ((rd_T37 l0 x10_1).f4) ((rd_T37 l0 x10_1).f5) ((rd_T37 l0 x10_1).f6) = some r) ∧ Aside0 (kq ≤ kj5) ∧ Aside0 (wc.heap[gb102]? = some (.cells #[.int .i64 ((rd_T37 l0 x10_1).f0), .int .i64 ((rd_T37 l0 x10_1).f1), .int .i64 ((rd_T37 l0 x10_1).f2), .int .i64 ((rd_T37 l0 x10_1).f3), .int .i64 ((rd_T37 l0 x10_1).f4), .int .i64 ((rd_T37 l0 x10_1).f5), .int .i64 ((rd_T37 l0 x10_1).f6)] 37 (0, 0))) ∧ Aside0 (Below w.heap.size w wc))
                    case first =>
                      have H := HC17.out
                      clear HC17
                      by_cases c18 : ((rd_T37 l0 x10_1).f0) < 1
                      · rw [if_pos c18] at H
                        have c18b0 : decide (((rd_T37 l0 x10_1).f0) < 1) = true := decide_eq_true c18
                        clear c18
                        (first | rw [c18b0] | (simp only [i64_w, i32_w]; rw [c18b0]) | skip)
                        have H' := Aside0.mk H
                        clear H
                        have hcz19_0 : wc.cell? ⟨gb102, 0, none⟩ = some (.int .i64 ((rd_T37 l0 x10_1).f0)) := (blk_cell BK102.out 0).trans rfl
                        have hcz19_1 : wc.cell? ⟨gb102, 1, none⟩ = some (.int .i64 ((rd_T37 l0 x10_1).f1)) := (blk_cell BK102.out 1).trans rfl
                        have hcz19_2 : wc.cell? ⟨gb102, 2, none⟩ = some (.int .i64 ((rd_T37 l0 x10_1).f2)) := (blk_cell BK102.out 2).trans rfl
                        have hcz19_3 : wc.cell? ⟨gb102, 3, none⟩ = some (.int .i64 ((rd_T37 l0 x10_1).f3)) := (blk_cell BK102.out 3).trans rfl
                        have hcz19_4 : wc.cell? ⟨gb102, 4, none⟩ = some (.int .i64 ((rd_T37 l0 x10_1).f4)) := (blk_cell BK102.out 4).trans rfl
                        have hcz19_5 : wc.cell? ⟨gb102, 5, none⟩ = some (.int .i64 ((rd_T37 l0 x10_1).f5)) := (blk_cell BK102.out 5).trans rfl
                        have hcz19_6 : wc.cell? ⟨gb102, 6, none⟩ = some (.int .i64 ((rd_T37 l0 x10_1).f6)) := (blk_cell BK102.out 6).trans rfl
                        have hfz19_0 := blk_frozen BK102.out 0
                        have hfz19_1 := blk_frozen BK102.out 1
                        have hfz19_2 := blk_frozen BK102.out 2
                        have hfz19_3 := blk_frozen BK102.out 3
                        have hfz19_4 := blk_frozen BK102.out 4
                        have hfz19_5 := blk_frozen BK102.out 5
                        have hfz19_6 := blk_frozen BK102.out 6
                        go_wp2
                        go_meet
                        case rel => exact ⟨_, (true), (by first | rfl | (simp; done) | (simp [*]; done)), H', ⟨by have := HK1.out; have := HJ5.out; first | omega | exact Nat.le_refl _⟩, ⟨by (with_reducible repeat (first | refine blk_drewN ?_ _ | refine blk_drew ?_ | refine blk_alloc ?_ _)); exact BK102.out⟩, ⟨by repeat (first | (with_reducible first | exact HB.out | apply below_alloc | apply pw_below_drewN | apply below_drew1 | refine below_set ?_ GE102.out) | exact HB.out)⟩⟩
                      · rw [if_neg c18] at H
                        have c18b0 : decide (((rd_T37 l0 x10_1).f0) < 1) = false := decide_eq_false c18
                        clear c18
                        (first | rw [c18b0] | (simp only [i64_w, i32_w]; rw [c18b0]) | skip)
                        by_cases c20 : ((rd_T37 l0 x10_1).f0) > 1073741824
                        · rw [if_pos c20] at H
                          have c20b0 : decide (1073741824 < ((rd_T37 l0 x10_1).f0)) = true := decide_eq_true c20
                          clear c20
                          have H' := Aside0.mk H
                          clear H
                          have hcz21_0 : wc.cell? ⟨gb102, 0, none⟩ = some (.int .i64 ((rd_T37 l0 x10_1).f0)) := (blk_cell BK102.out 0).trans rfl
                          have hcz21_1 : wc.cell? ⟨gb102, 1, none⟩ = some (.int .i64 ((rd_T37 l0 x10_1).f1)) := (blk_cell BK102.out 1).trans rfl
                          have hcz21_2 : wc.cell? ⟨gb102, 2, none⟩ = some (.int .i64 ((rd_T37 l0 x10_1).f2)) := (blk_cell BK102.out 2).trans rfl
                          have hcz21_3 : wc.cell? ⟨gb102, 3, none⟩ = some (.int .i64 ((rd_T37 l0 x10_1).f3)) := (blk_cell BK102.out 3).trans rfl
                          have hcz21_4 : wc.cell? ⟨gb102, 4, none⟩ = some (.int .i64 ((rd_T37 l0 x10_1).f4)) := (blk_cell BK102.out 4).trans rfl
                          have hcz21_5 : wc.cell? ⟨gb102, 5, none⟩ = some (.int .i64 ((rd_T37 l0 x10_1).f5)) := (blk_cell BK102.out 5).trans rfl
                          have hcz21_6 : wc.cell? ⟨gb102, 6, none⟩ = some (.int .i64 ((rd_T37 l0 x10_1).f6)) := (blk_cell BK102.out 6).trans rfl
                          have hfz21_0 := blk_frozen BK102.out 0
                          have hfz21_1 := blk_frozen BK102.out 1
                          have hfz21_2 := blk_frozen BK102.out 2
                          have hfz21_3 := blk_frozen BK102.out 3
                          have hfz21_4 := blk_frozen BK102.out 4
                          have hfz21_5 := blk_frozen BK102.out 5
                          have hfz21_6 := blk_frozen BK102.out 6
                          go_wp2
                          go_meet
                          case rel => exact ⟨_, (true), (by first | rfl | (simp; done) | (simp [*]; done)), H', ⟨by have := HK1.out; have := HJ5.out; first | omega | exact Nat.le_refl _⟩, ⟨by (with_reducible repeat (first | refine blk_drewN ?_ _ | refine blk_drew ?_ | refine blk_alloc ?_ _)); exact BK102.out⟩, ⟨by repeat (first | (with_reducible first | exact HB.out | apply below_alloc | apply pw_below_drewN | apply below_drew1 | refine below_set ?_ GE102.out) | exact HB.out)⟩⟩
                        · rw [if_neg c20] at H
                          have c20b0 : decide (1073741824 < ((rd_T37 l0 x10_1).f0)) = false := decide_eq_false c20
                          clear c20
                          by_cases c22 : ((rd_T37 l0 x10_1).f3) < 0
                          · rw [if_pos c22] at H
                            have c22b0 : decide (((rd_T37 l0 x10_1).f3) < 0) = true := decide_eq_true c22
                            clear c22
                            have H' := Aside0.mk H
                            clear H
                            have hcz23_0 : wc.cell? ⟨gb102, 0, none⟩ = some (.int .i64 ((rd_T37 l0 x10_1).f0)) := (blk_cell BK102.out 0).trans rfl
                            have hcz23_1 : wc.cell? ⟨gb102, 1, none⟩ = some (.int .i64 ((rd_T37 l0 x10_1).f1)) := (blk_cell BK102.out 1).trans rfl
                            have hcz23_2 : wc.cell? ⟨gb102, 2, none⟩ = some (.int .i64 ((rd_T37 l0 x10_1).f2)) := (blk_cell BK102.out 2).trans rfl
                            have hcz23_3 : wc.cell? ⟨gb102, 3, none⟩ = some (.int .i64 ((rd_T37 l0 x10_1).f3)) := (blk_cell BK102.out 3).trans rfl
                            have hcz23_4 : wc.cell? ⟨gb102, 4, none⟩ = some (.int .i64 ((rd_T37 l0 x10_1).f4)) := (blk_cell BK102.out 4).trans rfl
                            have hcz23_5 : wc.cell? ⟨gb102, 5, none⟩ = some (.int .i64 ((rd_T37 l0 x10_1).f5)) := (blk_cell BK102.out 5).trans rfl
                            have hcz23_6 : wc.cell? ⟨gb102, 6, none⟩ = some (.int .i64 ((rd_T37 l0 x10_1).f6)) := (blk_cell BK102.out 6).trans rfl
                            have hfz23_0 := blk_frozen BK102.out 0
                            have hfz23_1 := blk_frozen BK102.out 1
                            have hfz23_2 := blk_frozen BK102.out 2
                            have hfz23_3 := blk_frozen BK102.out 3
                            have hfz23_4 := blk_frozen BK102.out 4
                            have hfz23_5 := blk_frozen BK102.out 5
                            have hfz23_6 := blk_frozen BK102.out 6
                            go_wp2
                            go_meet
                            case rel => exact ⟨_, (true), (by first | rfl | (simp; done) | (simp [*]; done)), H', ⟨by have := HK1.out; have := HJ5.out; first | omega | exact Nat.le_refl _⟩, ⟨by (with_reducible repeat (first | refine blk_drewN ?_ _ | refine blk_drew ?_ | refine blk_alloc ?_ _)); exact BK102.out⟩, ⟨by repeat (first | (with_reducible first | exact HB.out | apply below_alloc | apply pw_below_drewN | apply below_drew1 | refine below_set ?_ GE102.out) | exact HB.out)⟩⟩
                          · rw [if_neg c22] at H
                            have c22b0 : decide (((rd_T37 l0 x10_1).f3) < 0) = false := decide_eq_false c22
                            clear c22
                            by_cases c24 : ((rd_T37 l0 x10_1).f3) > 10000000
                            · rw [if_pos c24] at H
                              have c24b0 : decide (10000000 < ((rd_T37 l0 x10_1).f3)) = true := decide_eq_true c24
                              clear c24
                              have H' := Aside0.mk H
                              clear H
                              have hcz25_0 : wc.cell? ⟨gb102, 0, none⟩ = some (.int .i64 ((rd_T37 l0 x10_1).f0)) := (blk_cell BK102.out 0).trans rfl
                              have hcz25_1 : wc.cell? ⟨gb102, 1, none⟩ = some (.int .i64 ((rd_T37 l0 x10_1).f1)) := (blk_cell BK102.out 1).trans rfl
                              have hcz25_2 : wc.cell? ⟨gb102, 2, none⟩ = some (.int .i64 ((rd_T37 l0 x10_1).f2)) := (blk_cell BK102.out 2).trans rfl
                              have hcz25_3 : wc.cell? ⟨gb102, 3, none⟩ = some (.int .i64 ((rd_T37 l0 x10_1).f3)) := (blk_cell BK102.out 3).trans rfl
                              have hcz25_4 : wc.cell? ⟨gb102, 4, none⟩ = some (.int .i64 ((rd_T37 l0 x10_1).f4)) := (blk_cell BK102.out 4).trans rfl
                              have hcz25_5 : wc.cell? ⟨gb102, 5, none⟩ = some (.int .i64 ((rd_T37 l0 x10_1).f5)) := (blk_cell BK102.out 5).trans rfl
                              have hcz25_6 : wc.cell? ⟨gb102, 6, none⟩ = some (.int .i64 ((rd_T37 l0 x10_1).f6)) := (blk_cell BK102.out 6).trans rfl
                              have hfz25_0 := blk_frozen BK102.out 0
                              have hfz25_1 := blk_frozen BK102.out 1
                              have hfz25_2 := blk_frozen BK102.out 2
                              have hfz25_3 := blk_frozen BK102.out 3
                              have hfz25_4 := blk_frozen BK102.out 4
                              have hfz25_5 := blk_frozen BK102.out 5
                              have hfz25_6 := blk_frozen BK102.out 6
                              go_wp2
                              go_meet
                              case rel => exact ⟨_, (true), (by first | rfl | (simp; done) | (simp [*]; done)), H', ⟨by have := HK1.out; have := HJ5.out; first | omega | exact Nat.le_refl _⟩, ⟨by (with_reducible repeat (first | refine blk_drewN ?_ _ | refine blk_drew ?_ | refine blk_alloc ?_ _)); exact BK102.out⟩, ⟨by repeat (first | (with_reducible first | exact HB.out | apply below_alloc | apply pw_below_drewN | apply below_drew1 | refine below_set ?_ GE102.out) | exact HB.out)⟩⟩
                            · rw [if_neg c24] at H
                              have c24b0 : decide (10000000 < ((rd_T37 l0 x10_1).f3)) = false := decide_eq_false c24
                              clear c24
                              by_cases c26 : ((rd_T37 l0 x10_1).f4) < 0
                              · rw [if_pos c26] at H
                                have c26b0 : decide (((rd_T37 l0 x10_1).f4) < 0) = true := decide_eq_true c26
                                clear c26
                                have H' := Aside0.mk H
                                clear H
                                have hcz27_0 : wc.cell? ⟨gb102, 0, none⟩ = some (.int .i64 ((rd_T37 l0 x10_1).f0)) := (blk_cell BK102.out 0).trans rfl
                                have hcz27_1 : wc.cell? ⟨gb102, 1, none⟩ = some (.int .i64 ((rd_T37 l0 x10_1).f1)) := (blk_cell BK102.out 1).trans rfl
                                have hcz27_2 : wc.cell? ⟨gb102, 2, none⟩ = some (.int .i64 ((rd_T37 l0 x10_1).f2)) := (blk_cell BK102.out 2).trans rfl
                                have hcz27_3 : wc.cell? ⟨gb102, 3, none⟩ = some (.int .i64 ((rd_T37 l0 x10_1).f3)) := (blk_cell BK102.out 3).trans rfl
                                have hcz27_4 : wc.cell? ⟨gb102, 4, none⟩ = some (.int .i64 ((rd_T37 l0 x10_1).f4)) := (blk_cell BK102.out 4).trans rfl
                                have hcz27_5 : wc.cell? ⟨gb102, 5, none⟩ = some (.int .i64 ((rd_T37 l0 x10_1).f5)) := (blk_cell BK102.out 5).trans rfl
                                have hcz27_6 : wc.cell? ⟨gb102, 6, none⟩ = some (.int .i64 ((rd_T37 l0 x10_1).f6)) := (blk_cell BK102.out 6).trans rfl
                                have hfz27_0 := blk_frozen BK102.out 0
                                have hfz27_1 := blk_frozen BK102.out 1
                                have hfz27_2 := blk_frozen BK102.out 2
                                have hfz27_3 := blk_frozen BK102.out 3
                                have hfz27_4 := blk_frozen BK102.out 4
                                have hfz27_5 := blk_frozen BK102.out 5
                                have hfz27_6 := blk_frozen BK102.out 6
                                go_wp2
                                go_meet
                                case rel => exact ⟨_, (true), (by first | rfl | (simp; done) | (simp [*]; done)), H', ⟨by have := HK1.out; have := HJ5.out; first | omega | exact Nat.le_refl _⟩, ⟨by (with_reducible repeat (first | refine blk_drewN ?_ _ | refine blk_drew ?_ | refine blk_alloc ?_ _)); exact BK102.out⟩, ⟨by repeat (first | (with_reducible first | exact HB.out | apply below_alloc | apply pw_below_drewN | apply below_drew1 | refine below_set ?_ GE102.out) | exact HB.out)⟩⟩
                              · rw [if_neg c26] at H
                                have c26b0 : decide (((rd_T37 l0 x10_1).f4) < 0) = false := decide_eq_false c26
                                clear c26
                                by_cases c28 : ((rd_T37 l0 x10_1).f4) > 10000000
                                · rw [if_pos c28] at H
                                  have c28b0 : decide (10000000 < ((rd_T37 l0 x10_1).f4)) = true := decide_eq_true c28
                                  clear c28
                                  have H' := Aside0.mk H
                                  clear H
                                  have hcz29_0 : wc.cell? ⟨gb102, 0, none⟩ = some (.int .i64 ((rd_T37 l0 x10_1).f0)) := (blk_cell BK102.out 0).trans rfl
                                  have hcz29_1 : wc.cell? ⟨gb102, 1, none⟩ = some (.int .i64 ((rd_T37 l0 x10_1).f1)) := (blk_cell BK102.out 1).trans rfl
                                  have hcz29_2 : wc.cell? ⟨gb102, 2, none⟩ = some (.int .i64 ((rd_T37 l0 x10_1).f2)) := (blk_cell BK102.out 2).trans rfl
                                  have hcz29_3 : wc.cell? ⟨gb102, 3, none⟩ = some (.int .i64 ((rd_T37 l0 x10_1).f3)) := (blk_cell BK102.out 3).trans rfl
                                  have hcz29_4 : wc.cell? ⟨gb102, 4, none⟩ = some (.int .i64 ((rd_T37 l0 x10_1).f4)) := (blk_cell BK102.out 4).trans rfl
                                  have hcz29_5 : wc.cell? ⟨gb102, 5, none⟩ = some (.int .i64 ((rd_T37 l0 x10_1).f5)) := (blk_cell BK102.out 5).trans rfl
                                  have hcz29_6 : wc.cell? ⟨gb102, 6, none⟩ = some (.int .i64 ((rd_T37 l0 x10_1).f6)) := (blk_cell BK102.out 6).trans rfl
                                  have hfz29_0 := blk_frozen BK102.out 0
                                  have hfz29_1 := blk_frozen BK102.out 1
                                  have hfz29_2 := blk_frozen BK102.out 2
                                  have hfz29_3 := blk_frozen BK102.out 3
                                  have hfz29_4 := blk_frozen BK102.out 4
                                  have hfz29_5 := blk_frozen BK102.out 5
                                  have hfz29_6 := blk_frozen BK102.out 6
                                  go_wp2
                                  go_meet
                                  case rel => exact ⟨_, (true), (by first | rfl | (simp; done) | (simp [*]; done)), H', ⟨by have := HK1.out; have := HJ5.out; first | omega | exact Nat.le_refl _⟩, ⟨by (with_reducible repeat (first | refine blk_drewN ?_ _ | refine blk_drew ?_ | refine blk_alloc ?_ _)); exact BK102.out⟩, ⟨by repeat (first | (with_reducible first | exact HB.out | apply below_alloc | apply pw_below_drewN | apply below_drew1 | refine below_set ?_ GE102.out) | exact HB.out)⟩⟩
                                · rw [if_neg c28] at H
                                  have c28b0 : decide (10000000 < ((rd_T37 l0 x10_1).f4)) = false := decide_eq_false c28
                                  clear c28
                                  by_cases c30 : ((rd_T37 l0 x10_1).f5) < (-1048576)
                                  · rw [if_pos c30] at H
                                    have c30b0 : decide (((rd_T37 l0 x10_1).f5) < (-1048576)) = true := decide_eq_true c30
                                    clear c30
                                    have H' := Aside0.mk H
                                    clear H
                                    have hcz31_0 : wc.cell? ⟨gb102, 0, none⟩ = some (.int .i64 ((rd_T37 l0 x10_1).f0)) := (blk_cell BK102.out 0).trans rfl
                                    have hcz31_1 : wc.cell? ⟨gb102, 1, none⟩ = some (.int .i64 ((rd_T37 l0 x10_1).f1)) := (blk_cell BK102.out 1).trans rfl
                                    have hcz31_2 : wc.cell? ⟨gb102, 2, none⟩ = some (.int .i64 ((rd_T37 l0 x10_1).f2)) := (blk_cell BK102.out 2).trans rfl
                                    have hcz31_3 : wc.cell? ⟨gb102, 3, none⟩ = some (.int .i64 ((rd_T37 l0 x10_1).f3)) := (blk_cell BK102.out 3).trans rfl
                                    have hcz31_4 : wc.cell? ⟨gb102, 4, none⟩ = some (.int .i64 ((rd_T37 l0 x10_1).f4)) := (blk_cell BK102.out 4).trans rfl
                                    have hcz31_5 : wc.cell? ⟨gb102, 5, none⟩ = some (.int .i64 ((rd_T37 l0 x10_1).f5)) := (blk_cell BK102.out 5).trans rfl
                                    have hcz31_6 : wc.cell? ⟨gb102, 6, none⟩ = some (.int .i64 ((rd_T37 l0 x10_1).f6)) := (blk_cell BK102.out 6).trans rfl
                                    have hfz31_0 := blk_frozen BK102.out 0
                                    have hfz31_1 := blk_frozen BK102.out 1
                                    have hfz31_2 := blk_frozen BK102.out 2
                                    have hfz31_3 := blk_frozen BK102.out 3
                                    have hfz31_4 := blk_frozen BK102.out 4
                                    have hfz31_5 := blk_frozen BK102.out 5
                                    have hfz31_6 := blk_frozen BK102.out 6
                                    go_wp2
                                    go_meet
                                    case rel => exact ⟨_, (true), (by first | rfl | (simp; done) | (simp [*]; done)), H', ⟨by have := HK1.out; have := HJ5.out; first | omega | exact Nat.le_refl _⟩, ⟨by (with_reducible repeat (first | refine blk_drewN ?_ _ | refine blk_drew ?_ | refine blk_alloc ?_ _)); exact BK102.out⟩, ⟨by repeat (first | (with_reducible first | exact HB.out | apply below_alloc | apply pw_below_drewN | apply below_drew1 | refine below_set ?_ GE102.out) | exact HB.out)⟩⟩
                                  · rw [if_neg c30] at H
                                    have c30b0 : decide (((rd_T37 l0 x10_1).f5) < (-1048576)) = false := decide_eq_false c30
                                    clear c30
                                    by_cases c32 : ((rd_T37 l0 x10_1).f5) > 1048576
                                    · rw [if_pos c32] at H
                                      have c32b0 : decide (1048576 < ((rd_T37 l0 x10_1).f5)) = true := decide_eq_true c32
                                      clear c32
                                      have H' := Aside0.mk H
                                      clear H
                                      have hcz33_0 : wc.cell? ⟨gb102, 0, none⟩ = some (.int .i64 ((rd_T37 l0 x10_1).f0)) := (blk_cell BK102.out 0).trans rfl
                                      have hcz33_1 : wc.cell? ⟨gb102, 1, none⟩ = some (.int .i64 ((rd_T37 l0 x10_1).f1)) := (blk_cell BK102.out 1).trans rfl
                                      have hcz33_2 : wc.cell? ⟨gb102, 2, none⟩ = some (.int .i64 ((rd_T37 l0 x10_1).f2)) := (blk_cell BK102.out 2).trans rfl
                                      have hcz33_3 : wc.cell? ⟨gb102, 3, none⟩ = some (.int .i64 ((rd_T37 l0 x10_1).f3)) := (blk_cell BK102.out 3).trans rfl
                                      have hcz33_4 : wc.cell? ⟨gb102, 4, none⟩ = some (.int .i64 ((rd_T37 l0 x10_1).f4)) := (blk_cell BK102.out 4).trans rfl
                                      have hcz33_5 : wc.cell? ⟨gb102, 5, none⟩ = some (.int .i64 ((rd_T37 l0 x10_1).f5)) := (blk_cell BK102.out 5).trans rfl
                                      have hcz33_6 : wc.cell? ⟨gb102, 6, none⟩ = some (.int .i64 ((rd_T37 l0 x10_1).f6)) := (blk_cell BK102.out 6).trans rfl
                                      have hfz33_0 := blk_frozen BK102.out 0
                                      have hfz33_1 := blk_frozen BK102.out 1
                                      have hfz33_2 := blk_frozen BK102.out 2
                                      have hfz33_3 := blk_frozen BK102.out 3
                                      have hfz33_4 := blk_frozen BK102.out 4
                                      have hfz33_5 := blk_frozen BK102.out 5
                                      have hfz33_6 := blk_frozen BK102.out 6
                                      go_wp2
                                      go_meet
                                      case rel => exact ⟨_, (true), (by first | rfl | (simp; done) | (simp [*]; done)), H', ⟨by have := HK1.out; have := HJ5.out; first | omega | exact Nat.le_refl _⟩, ⟨by (with_reducible repeat (first | refine blk_drewN ?_ _ | refine blk_drew ?_ | refine blk_alloc ?_ _)); exact BK102.out⟩, ⟨by repeat (first | (with_reducible first | exact HB.out | apply below_alloc | apply pw_below_drewN | apply below_drew1 | refine below_set ?_ GE102.out) | exact HB.out)⟩⟩
                                    · rw [if_neg c32] at H
                                      have c32b0 : decide (1048576 < ((rd_T37 l0 x10_1).f5)) = false := decide_eq_false c32
                                      clear c32
                                      by_cases c34 : ((rd_T37 l0 x10_1).f6) < (-1048576)
                                      · rw [if_pos c34] at H
                                        have c34b0 : decide (((rd_T37 l0 x10_1).f6) < (-1048576)) = true := decide_eq_true c34
                                        clear c34
                                        have H' := Aside0.mk H
                                        clear H
                                        have hcz35_0 : wc.cell? ⟨gb102, 0, none⟩ = some (.int .i64 ((rd_T37 l0 x10_1).f0)) := (blk_cell BK102.out 0).trans rfl
                                        have hcz35_1 : wc.cell? ⟨gb102, 1, none⟩ = some (.int .i64 ((rd_T37 l0 x10_1).f1)) := (blk_cell BK102.out 1).trans rfl
                                        have hcz35_2 : wc.cell? ⟨gb102, 2, none⟩ = some (.int .i64 ((rd_T37 l0 x10_1).f2)) := (blk_cell BK102.out 2).trans rfl
                                        have hcz35_3 : wc.cell? ⟨gb102, 3, none⟩ = some (.int .i64 ((rd_T37 l0 x10_1).f3)) := (blk_cell BK102.out 3).trans rfl
                                        have hcz35_4 : wc.cell? ⟨gb102, 4, none⟩ = some (.int .i64 ((rd_T37 l0 x10_1).f4)) := (blk_cell BK102.out 4).trans rfl
                                        have hcz35_5 : wc.cell? ⟨gb102, 5, none⟩ = some (.int .i64 ((rd_T37 l0 x10_1).f5)) := (blk_cell BK102.out 5).trans rfl
                                        have hcz35_6 : wc.cell? ⟨gb102, 6, none⟩ = some (.int .i64 ((rd_T37 l0 x10_1).f6)) := (blk_cell BK102.out 6).trans rfl
                                        have hfz35_0 := blk_frozen BK102.out 0
                                        have hfz35_1 := blk_frozen BK102.out 1
                                        have hfz35_2 := blk_frozen BK102.out 2
                                        have hfz35_3 := blk_frozen BK102.out 3
                                        have hfz35_4 := blk_frozen BK102.out 4
                                        have hfz35_5 := blk_frozen BK102.out 5
                                        have hfz35_6 := blk_frozen BK102.out 6
                                        go_wp2
                                        go_meet
                                        case rel => exact ⟨_, (true), (by first | rfl | (simp; done) | (simp [*]; done)), H', ⟨by have := HK1.out; have := HJ5.out; first | omega | exact Nat.le_refl _⟩, ⟨by (with_reducible repeat (first | refine blk_drewN ?_ _ | refine blk_drew ?_ | refine blk_alloc ?_ _)); exact BK102.out⟩, ⟨by repeat (first | (with_reducible first | exact HB.out | apply below_alloc | apply pw_below_drewN | apply below_drew1 | refine below_set ?_ GE102.out) | exact HB.out)⟩⟩
                                      · rw [if_neg c34] at H
                                        have c34b0 : decide (((rd_T37 l0 x10_1).f6) < (-1048576)) = false := decide_eq_false c34
                                        clear c34
                                        have H' := Aside0.mk H
                                        clear H
                                        have hcz36_0 : wc.cell? ⟨gb102, 0, none⟩ = some (.int .i64 ((rd_T37 l0 x10_1).f0)) := (blk_cell BK102.out 0).trans rfl
                                        have hcz36_1 : wc.cell? ⟨gb102, 1, none⟩ = some (.int .i64 ((rd_T37 l0 x10_1).f1)) := (blk_cell BK102.out 1).trans rfl
                                        have hcz36_2 : wc.cell? ⟨gb102, 2, none⟩ = some (.int .i64 ((rd_T37 l0 x10_1).f2)) := (blk_cell BK102.out 2).trans rfl
                                        have hcz36_3 : wc.cell? ⟨gb102, 3, none⟩ = some (.int .i64 ((rd_T37 l0 x10_1).f3)) := (blk_cell BK102.out 3).trans rfl
                                        have hcz36_4 : wc.cell? ⟨gb102, 4, none⟩ = some (.int .i64 ((rd_T37 l0 x10_1).f4)) := (blk_cell BK102.out 4).trans rfl
                                        have hcz36_5 : wc.cell? ⟨gb102, 5, none⟩ = some (.int .i64 ((rd_T37 l0 x10_1).f5)) := (blk_cell BK102.out 5).trans rfl
                                        have hcz36_6 : wc.cell? ⟨gb102, 6, none⟩ = some (.int .i64 ((rd_T37 l0 x10_1).f6)) := (blk_cell BK102.out 6).trans rfl
                                        have hfz36_0 := blk_frozen BK102.out 0
                                        have hfz36_1 := blk_frozen BK102.out 1
                                        have hfz36_2 := blk_frozen BK102.out 2
                                        have hfz36_3 := blk_frozen BK102.out 3
                                        have hfz36_4 := blk_frozen BK102.out 4
                                        have hfz36_5 := blk_frozen BK102.out 5
                                        have hfz36_6 := blk_frozen BK102.out 6
                                        go_wp2
                                        go_meet
                                        case rel => exact ⟨_, (decide (((rd_T37 l0 x10_1).f6) > 1048576)), (by first | rfl | (simp; done) | (simp [*]; done)), H', ⟨by have := HK1.out; have := HJ5.out; first | omega | exact Nat.le_refl _⟩, ⟨by (with_reducible repeat (first | refine blk_drewN ?_ _ | refine blk_drew ?_ | refine blk_alloc ?_ _)); exact BK102.out⟩, ⟨by repeat (first | (with_reducible first | exact HB.out | apply below_alloc | apply pw_below_drewN | apply below_drew1 | refine below_set ?_ GE102.out) | exact HB.out)⟩⟩
                    case rest =>
                      clear HC17
                      try clear c1
                      try clear p1
                      try clear q1
                      try clear hx1
                      try clear c2
                      try clear c2b0
                      try clear c2b1
                      try clear p2
                      try clear c3
                      try clear c3b0
                      try clear c4
                      try clear c4b0
                      try clear c5
                      try clear c5b0
                      try clear c9
                      try clear c9b0
                      try clear p10
                      try clear q10
                      try clear hx10
                      try clear c11
                      try clear c11b0
                      try clear c12
                      try clear c13
                      try clear c13b0
                      try clear c16
                      try clear c18
                      try clear c18b0
                      try clear c20
                      try clear c20b0
                      try clear c22
                      try clear c22b0
                      try clear c24
                      try clear c24b0
                      try clear c26
                      try clear c26b0
                      try clear c28
                      try clear c28b0
                      try clear c30
                      try clear c30b0
                      try clear c32
                      try clear c32b0
                      try clear c34
                      try clear c34b0
                      try clear hcz10_0
                      try clear hcz10_1
                      try clear hcz10_2
                      try clear hcz10_3
                      try clear hcz10_4
                      try clear hcz10_5
                      try clear hcz10_6
                      try clear hcz12_0
                      try clear hcz12_1
                      try clear hcz12_2
                      try clear hcz12_3
                      try clear hcz12_4
                      try clear hcz12_5
                      try clear hcz12_6
                      try clear hcz14_0
                      try clear hcz14_1
                      try clear hcz14_2
                      try clear hcz14_3
                      try clear hcz14_4
                      try clear hcz14_5
                      try clear hcz14_6
                      try clear hcz15_0
                      try clear hcz15_1
                      try clear hcz15_2
                      try clear hcz15_3
                      try clear hcz15_4
                      try clear hcz15_5
                      try clear hcz15_6
                      try clear hcz19_0
                      try clear hcz19_1
                      try clear hcz19_2
                      try clear hcz19_3
                      try clear hcz19_4
                      try clear hcz19_5
                      try clear hcz19_6
                      try clear hcz21_0
                      try clear hcz21_1
                      try clear hcz21_2
                      try clear hcz21_3
                      try clear hcz21_4
                      try clear hcz21_5
                      try clear hcz21_6
                      try clear hcz23_0
                      try clear hcz23_1
                      try clear hcz23_2
                      try clear hcz23_3
                      try clear hcz23_4
                      try clear hcz23_5
                      try clear hcz23_6
                      try clear hcz25_0
                      try clear hcz25_1
                      try clear hcz25_2
                      try clear hcz25_3
                      try clear hcz25_4
                      try clear hcz25_5
                      try clear hcz25_6
                      try clear hcz27_0
                      try clear hcz27_1
                      try clear hcz27_2
                      try clear hcz27_3
                      try clear hcz27_4
                      try clear hcz27_5
                      try clear hcz27_6
                      try clear hcz29_0
                      try clear hcz29_1
                      try clear hcz29_2
                      try clear hcz29_3
                      try clear hcz29_4
                      try clear hcz29_5
                      try clear hcz29_6
                      try clear hcz31_0
                      try clear hcz31_1
                      try clear hcz31_2
                      try clear hcz31_3
                      try clear hcz31_4
                      try clear hcz31_5
                      try clear hcz31_6
                      try clear hcz33_0
                      try clear hcz33_1
                      try clear hcz33_2
                      try clear hcz33_3
                      try clear hcz33_4
                      try clear hcz33_5
                      try clear hcz33_6
                      try clear hcz35_0
                      try clear hcz35_1
                      try clear hcz35_2
                      try clear hcz35_3
                      try clear hcz35_4
                      try clear hcz35_5
                      try clear hcz35_6
                      try clear hcz36_0
                      try clear hcz36_1
                      try clear hcz36_2
                      try clear hcz36_3
                      try clear hcz36_4
                      try clear hcz36_5
                      try clear hcz36_6
                      try clear hcz8_0
                      try clear hcz8_1
                      try clear hcz8_2
                      try clear hcz8_3
                      try clear hcz8_4
                      try clear hcz8_5
                      try clear hcz8_6
                      try clear hfz10_0
                      try clear hfz10_1
                      try clear hfz10_2
                      try clear hfz10_3
                      try clear hfz10_4
                      try clear hfz10_5
                      try clear hfz10_6
                      try clear hfz12_0
                      try clear hfz12_1
                      try clear hfz12_2
                      try clear hfz12_3
                      try clear hfz12_4
                      try clear hfz12_5
                      try clear hfz12_6
                      try clear hfz14_0
                      try clear hfz14_1
                      try clear hfz14_2
                      try clear hfz14_3
                      try clear hfz14_4
                      try clear hfz14_5
                      try clear hfz14_6
                      try clear hfz15_0
                      try clear hfz15_1
                      try clear hfz15_2
                      try clear hfz15_3
                      try clear hfz15_4
                      try clear hfz15_5
                      try clear hfz15_6
                      try clear hfz19_0
                      try clear hfz19_1
                      try clear hfz19_2
                      try clear hfz19_3
                      try clear hfz19_4
                      try clear hfz19_5
                      try clear hfz19_6
                      try clear hfz21_0
                      try clear hfz21_1
                      try clear hfz21_2
                      try clear hfz21_3
                      try clear hfz21_4
                      try clear hfz21_5
                      try clear hfz21_6
                      try clear hfz23_0
                      try clear hfz23_1
                      try clear hfz23_2
                      try clear hfz23_3
                      try clear hfz23_4
                      try clear hfz23_5
                      try clear hfz23_6
                      try clear hfz25_0
                      try clear hfz25_1
                      try clear hfz25_2
                      try clear hfz25_3
                      try clear hfz25_4
                      try clear hfz25_5
                      try clear hfz25_6
                      try clear hfz27_0
                      try clear hfz27_1
                      try clear hfz27_2
                      try clear hfz27_3
                      try clear hfz27_4
                      try clear hfz27_5
                      try clear hfz27_6
                      try clear hfz29_0
                      try clear hfz29_1
                      try clear hfz29_2
                      try clear hfz29_3
                      try clear hfz29_4
                      try clear hfz29_5
                      try clear hfz29_6
                      try clear hfz31_0
                      try clear hfz31_1
                      try clear hfz31_2
                      try clear hfz31_3
                      try clear hfz31_4
                      try clear hfz31_5
                      try clear hfz31_6
                      try clear hfz33_0
                      try clear hfz33_1
                      try clear hfz33_2
                      try clear hfz33_3
                      try clear hfz33_4
                      try clear hfz33_5
                      try clear hfz33_6
                      try clear hfz35_0
                      try clear hfz35_1
                      try clear hfz35_2
                      try clear hfz35_3
                      try clear hfz35_4
                      try clear hfz35_5
                      try clear hfz35_6
                      try clear hfz36_0
                      try clear hfz36_1
                      try clear hfz36_2
                      try clear hfz36_3
                      try clear hfz36_4
                      try clear hfz36_5
                      try clear hfz36_6
                      try clear hfz8_0
                      try clear hfz8_1
                      try clear hfz8_2
                      try clear hfz8_3
                      try clear hfz8_4
                      try clear hfz8_5
                      try clear hfz8_6
                      try clear hx101_0
                      try clear hx101_1
                      try clear hx101_2
                      try clear hx101_3
                      try clear hx101_4
                      try clear hx101_5
                      try clear hx101_6
                      try clear p1
                      try clear p10
                      try clear p101
                      try clear p2
                      try clear q1
                      try clear q10
                      try clear q101
                      obtain ⟨kq, x79_16, rfl, HA, HJ16, BK102, HB⟩ := hcut
                      cases kq with
                      | zero => exact absurd HA.out (by simp [timeline_Check.j2])
                      | succ kj16 =>
                        have H := HA.out
                        clear HA
                        simp only [timeline_Check.j2] at H
                        by_cases c37 : x79_16 = true
                        · subst c37
                          have H1 : (some 2) = some r := by rw [if_pos rfl] at H; exact H
                          clear H
                          have H := H1
                          clear H1
                          obtain rfl := Option.some.inj H
                          go_wp2
                          go_ret
                          exact ⟨by first | rfl | (simp [errW_none, errW_some] <;> rfl) | (simp [*, errW_none, errW_some] <;> rfl), by repeat (first | (with_reducible first | exact HB.out | apply below_alloc | apply pw_below_drewN | apply below_drew1 | refine below_set ?_ GE102.out) | exact HB.out)⟩
                        · replace c37 := Bool.eq_false_iff.mpr c37
                          subst c37
                          have H1 : (if ((rd_T37 l0 x10_1).f1) = 2 then (timeline_Check.l0 kj16 l0 (l0.length : Int) (wrap64 (x10_1 + 1))) else (if ((rd_T37 l0 x10_1).f5) = 0 then (if ((rd_T37 l0 x10_1).f6) = 0 then (timeline_Check.l0 kj16 l0 (l0.length : Int) (wrap64 (x10_1 + 1))) else (some 4)) else (some 4))) = some r := by rw [if_neg (show ¬ (false = true) by decide)] at H; exact H
                          clear H
                          have H := H1
                          clear H1
                          by_cases c38 : ((rd_T37 l0 x10_1).f1) = 2
                          · rw [if_pos c38] at H
                            have c38b0 : (((rd_T37 l0 x10_1).f1) == 2) = true := beq_iff_eq.mpr c38
                            have c38b1 : (((rd_T37 l0 x10_1).f1) != 2) = false := bne_eq_false_iff_eq.mpr c38
                            clear c38
                            have H' := Aside0.mk H
                            clear H
                            have hcz39_0 : wc.cell? ⟨gb102, 0, none⟩ = some (.int .i64 ((rd_T37 l0 x10_1).f0)) := (blk_cell BK102.out 0).trans rfl
                            have hcz39_1 : wc.cell? ⟨gb102, 1, none⟩ = some (.int .i64 ((rd_T37 l0 x10_1).f1)) := (blk_cell BK102.out 1).trans rfl
                            have hcz39_2 : wc.cell? ⟨gb102, 2, none⟩ = some (.int .i64 ((rd_T37 l0 x10_1).f2)) := (blk_cell BK102.out 2).trans rfl
                            have hcz39_3 : wc.cell? ⟨gb102, 3, none⟩ = some (.int .i64 ((rd_T37 l0 x10_1).f3)) := (blk_cell BK102.out 3).trans rfl
                            have hcz39_4 : wc.cell? ⟨gb102, 4, none⟩ = some (.int .i64 ((rd_T37 l0 x10_1).f4)) := (blk_cell BK102.out 4).trans rfl
                            have hcz39_5 : wc.cell? ⟨gb102, 5, none⟩ = some (.int .i64 ((rd_T37 l0 x10_1).f5)) := (blk_cell BK102.out 5).trans rfl
                            have hcz39_6 : wc.cell? ⟨gb102, 6, none⟩ = some (.int .i64 ((rd_T37 l0 x10_1).f6)) := (blk_cell BK102.out 6).trans rfl
                            have hfz39_0 := blk_frozen BK102.out 0
                            have hfz39_1 := blk_frozen BK102.out 1
                            have hfz39_2 := blk_frozen BK102.out 2
                            have hfz39_3 := blk_frozen BK102.out 3
                            have hfz39_4 := blk_frozen BK102.out 4
                            have hfz39_5 := blk_frozen BK102.out 5
                            have hfz39_6 := blk_frozen BK102.out 6
                            go_wp2
                            go_roundg kj16
                            case measure => have := HK1.out; have := HJ5.out; have := HJ16.out; omega
                            case rel => exact ⟨(wrap64 (x10_1 + 1)), (by first | rfl | (simp; done) | (simp [*]; done)), H', ⟨by have := HK1.out; have := HJ5.out; have := HJ16.out; omega⟩, ⟨by repeat (first | (with_reducible first | exact HB.out | apply below_alloc | apply pw_below_drewN | apply below_drew1 | refine below_set ?_ GE102.out) | exact HB.out)⟩⟩
                          · rw [if_neg c38] at H
                            have c38b0 : (((rd_T37 l0 x10_1).f1) == 2) = false := beq_eq_false_iff_ne.mpr c38
                            have c38b1 : (((rd_T37 l0 x10_1).f1) != 2) = true := bne_iff_ne.mpr c38
                            by_cases c40 : ((rd_T37 l0 x10_1).f5) = 0
                            · rw [if_pos c40] at H
                              have c40b0 : (((rd_T37 l0 x10_1).f5) == 0) = true := beq_iff_eq.mpr c40
                              have c40b1 : (((rd_T37 l0 x10_1).f5) != 0) = false := bne_eq_false_iff_eq.mpr c40
                              clear c40
                              by_cases c41 : ((rd_T37 l0 x10_1).f6) = 0
                              · rw [if_pos c41] at H
                                have c41b0 : (((rd_T37 l0 x10_1).f6) == 0) = true := beq_iff_eq.mpr c41
                                have c41b1 : (((rd_T37 l0 x10_1).f6) != 0) = false := bne_eq_false_iff_eq.mpr c41
                                clear c41
                                have H' := Aside0.mk H
                                clear H
                                have hcz42_0 : wc.cell? ⟨gb102, 0, none⟩ = some (.int .i64 ((rd_T37 l0 x10_1).f0)) := (blk_cell BK102.out 0).trans rfl
                                have hcz42_1 : wc.cell? ⟨gb102, 1, none⟩ = some (.int .i64 ((rd_T37 l0 x10_1).f1)) := (blk_cell BK102.out 1).trans rfl
                                have hcz42_2 : wc.cell? ⟨gb102, 2, none⟩ = some (.int .i64 ((rd_T37 l0 x10_1).f2)) := (blk_cell BK102.out 2).trans rfl
                                have hcz42_3 : wc.cell? ⟨gb102, 3, none⟩ = some (.int .i64 ((rd_T37 l0 x10_1).f3)) := (blk_cell BK102.out 3).trans rfl
                                have hcz42_4 : wc.cell? ⟨gb102, 4, none⟩ = some (.int .i64 ((rd_T37 l0 x10_1).f4)) := (blk_cell BK102.out 4).trans rfl
                                have hcz42_5 : wc.cell? ⟨gb102, 5, none⟩ = some (.int .i64 ((rd_T37 l0 x10_1).f5)) := (blk_cell BK102.out 5).trans rfl
                                have hcz42_6 : wc.cell? ⟨gb102, 6, none⟩ = some (.int .i64 ((rd_T37 l0 x10_1).f6)) := (blk_cell BK102.out 6).trans rfl
                                have hfz42_0 := blk_frozen BK102.out 0
                                have hfz42_1 := blk_frozen BK102.out 1
                                have hfz42_2 := blk_frozen BK102.out 2
                                have hfz42_3 := blk_frozen BK102.out 3
                                have hfz42_4 := blk_frozen BK102.out 4
                                have hfz42_5 := blk_frozen BK102.out 5
                                have hfz42_6 := blk_frozen BK102.out 6
                                go_wp2
                                go_roundg kj16
                                case measure => have := HK1.out; have := HJ5.out; have := HJ16.out; omega
                                case rel => exact ⟨(wrap64 (x10_1 + 1)), (by first | rfl | (simp; done) | (simp [*]; done)), H', ⟨by have := HK1.out; have := HJ5.out; have := HJ16.out; omega⟩, ⟨by repeat (first | (with_reducible first | exact HB.out | apply below_alloc | apply pw_below_drewN | apply below_drew1 | refine below_set ?_ GE102.out) | exact HB.out)⟩⟩
                              · rw [if_neg c41] at H
                                have c41b0 : (((rd_T37 l0 x10_1).f6) == 0) = false := beq_eq_false_iff_ne.mpr c41
                                have c41b1 : (((rd_T37 l0 x10_1).f6) != 0) = true := bne_iff_ne.mpr c41
                                obtain rfl := Option.some.inj H
                                have hcz43_0 : wc.cell? ⟨gb102, 0, none⟩ = some (.int .i64 ((rd_T37 l0 x10_1).f0)) := (blk_cell BK102.out 0).trans rfl
                                have hcz43_1 : wc.cell? ⟨gb102, 1, none⟩ = some (.int .i64 ((rd_T37 l0 x10_1).f1)) := (blk_cell BK102.out 1).trans rfl
                                have hcz43_2 : wc.cell? ⟨gb102, 2, none⟩ = some (.int .i64 ((rd_T37 l0 x10_1).f2)) := (blk_cell BK102.out 2).trans rfl
                                have hcz43_3 : wc.cell? ⟨gb102, 3, none⟩ = some (.int .i64 ((rd_T37 l0 x10_1).f3)) := (blk_cell BK102.out 3).trans rfl
                                have hcz43_4 : wc.cell? ⟨gb102, 4, none⟩ = some (.int .i64 ((rd_T37 l0 x10_1).f4)) := (blk_cell BK102.out 4).trans rfl
                                have hcz43_5 : wc.cell? ⟨gb102, 5, none⟩ = some (.int .i64 ((rd_T37 l0 x10_1).f5)) := (blk_cell BK102.out 5).trans rfl
                                have hcz43_6 : wc.cell? ⟨gb102, 6, none⟩ = some (.int .i64 ((rd_T37 l0 x10_1).f6)) := (blk_cell BK102.out 6).trans rfl
                                have hfz43_0 := blk_frozen BK102.out 0
                                have hfz43_1 := blk_frozen BK102.out 1
                                have hfz43_2 := blk_frozen BK102.out 2
                                have hfz43_3 := blk_frozen BK102.out 3
                                have hfz43_4 := blk_frozen BK102.out 4
                                have hfz43_5 := blk_frozen BK102.out 5
                                have hfz43_6 := blk_frozen BK102.out 6
                                go_wp2
                                go_ret
                                exact ⟨by first | rfl | (simp [errW_none, errW_some] <;> rfl) | (simp [*, errW_none, errW_some] <;> rfl), by repeat (first | (with_reducible first | exact HB.out | apply below_alloc | apply pw_below_drewN | apply below_drew1 | refine below_set ?_ GE102.out) | exact HB.out)⟩
                            · rw [if_neg c40] at H
                              have c40b0 : (((rd_T37 l0 x10_1).f5) == 0) = false := beq_eq_false_iff_ne.mpr c40
                              have c40b1 : (((rd_T37 l0 x10_1).f5) != 0) = true := bne_iff_ne.mpr c40
                              obtain rfl := Option.some.inj H
                              have hcz44_0 : wc.cell? ⟨gb102, 0, none⟩ = some (.int .i64 ((rd_T37 l0 x10_1).f0)) := (blk_cell BK102.out 0).trans rfl
                              have hcz44_1 : wc.cell? ⟨gb102, 1, none⟩ = some (.int .i64 ((rd_T37 l0 x10_1).f1)) := (blk_cell BK102.out 1).trans rfl
                              have hcz44_2 : wc.cell? ⟨gb102, 2, none⟩ = some (.int .i64 ((rd_T37 l0 x10_1).f2)) := (blk_cell BK102.out 2).trans rfl
                              have hcz44_3 : wc.cell? ⟨gb102, 3, none⟩ = some (.int .i64 ((rd_T37 l0 x10_1).f3)) := (blk_cell BK102.out 3).trans rfl
                              have hcz44_4 : wc.cell? ⟨gb102, 4, none⟩ = some (.int .i64 ((rd_T37 l0 x10_1).f4)) := (blk_cell BK102.out 4).trans rfl
                              have hcz44_5 : wc.cell? ⟨gb102, 5, none⟩ = some (.int .i64 ((rd_T37 l0 x10_1).f5)) := (blk_cell BK102.out 5).trans rfl
                              have hcz44_6 : wc.cell? ⟨gb102, 6, none⟩ = some (.int .i64 ((rd_T37 l0 x10_1).f6)) := (blk_cell BK102.out 6).trans rfl
                              have hfz44_0 := blk_frozen BK102.out 0
                              have hfz44_1 := blk_frozen BK102.out 1
                              have hfz44_2 := blk_frozen BK102.out 2
                              have hfz44_3 := blk_frozen BK102.out 3
                              have hfz44_4 := blk_frozen BK102.out 4
                              have hfz44_5 := blk_frozen BK102.out 5
                              have hfz44_6 := blk_frozen BK102.out 6
                              go_wp2
                              go_ret
                              exact ⟨by first | rfl | (simp [errW_none, errW_some] <;> rfl) | (simp [*, errW_none, errW_some] <;> rfl), by repeat (first | (with_reducible first | exact HB.out | apply below_alloc | apply pw_below_drewN | apply below_drew1 | refine below_set ?_ GE102.out) | exact HB.out)⟩
            · rw [if_neg c5] at H
              exact absurd H (by simp)
          · rw [if_neg c4] at H
            exact absurd H (by simp)
        · rw [if_neg c3] at H
          have c3b0 : decide (x10_1 < (l0.length : Int)) = false := decide_eq_false c3
          clear c3
          obtain rfl := Option.some.inj H
          go_wp2
          go_ret
          exact ⟨by first | rfl | (simp [errW_none, errW_some] <;> rfl) | (simp [*, errW_none, errW_some] <;> rfl), by repeat (first | (with_reducible first | exact HB.out | apply below_alloc | apply pw_below_drewN | apply below_drew1) | exact HB.out)⟩

end Go.Proofs.Ytmjdeejccmcpnaa.Q
