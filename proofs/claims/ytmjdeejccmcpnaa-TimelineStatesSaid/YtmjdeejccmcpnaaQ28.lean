/- What chancerylaw3.effectsError returns, as a plain Lean function, and that the Go code returns it. (Printed by a program of this session: the kit's print in a patched scratch copy.) -/
import Derived.Test.YtmjdeejccmcpnaaQ0
import Derived.Test.YtmjdeejccmcpnaaQ27
namespace Go.Proofs.Ytmjdeejccmcpnaa.Q
open Go.RowKit Go.Proofs.YtmjdeejccmcpnaaW.PrintWords Go.Proofs.YtmjdeejccmcpnaaW.PrintLast Go.Proofs.YtmjdeejccmcpnaaW.PrintMore
attribute [local go_sem] max2_int min2_int max_two min_two max_three min_three max_four min_four   -- for this text's walks alone
set_option linter.unusedVariables false
set_option linter.unusedSimpArgs false

/-! ### chancerylaw3_effectsError: function 6 -/
mutual
def chancerylaw3_effectsError.l0 : Nat → List (S37) → Int → Int → Option (Int)
  | 0, _, _, _ => none
  | k + 1, x8, x9, x10 => if x10 < x9 then (if 0 ≤ x10 then (if x10 < (x8.length : Int) then ((chanceryref3_In.f ((rd_T37 x8 x10).f1) 0 2).bind fun t129 => (if t129 = true then ((chanceryref3_In.f ((rd_T37 x8 x10).f2) 0 2).bind fun t130 => (chancerylaw3_effectsError.j1 k x8 x9 x10 (!t130) ((rd_T37 x8 x10).f0) ((rd_T37 x8 x10).f1) ((rd_T37 x8 x10).f2) ((rd_T37 x8 x10).f3) ((rd_T37 x8 x10).f4) ((rd_T37 x8 x10).f5) ((rd_T37 x8 x10).f6))) else (chancerylaw3_effectsError.j1 k x8 x9 x10 (!t129) ((rd_T37 x8 x10).f0) ((rd_T37 x8 x10).f1) ((rd_T37 x8 x10).f2) ((rd_T37 x8 x10).f3) ((rd_T37 x8 x10).f4) ((rd_T37 x8 x10).f5) ((rd_T37 x8 x10).f6)))) else (none)) else (none)) else (some 0)
def chancerylaw3_effectsError.j1 : Nat → List (S37) → Int → Int → Bool → Int → Int → Int → Int → Int → Int → Int → Option (Int)
  | 0, _, _, _, _, _, _, _, _, _, _, _ => none
  | k + 1, x8, x9, x10, x14, x129000, x129001, x129002, x129003, x129004, x129005, x129006 => if x14 = true then (some 8) else ((chanceryref3_In.f x129000 1 1073741824).bind fun t131 => (if t131 = true then ((chanceryref3_In.f x129003 0 10000000).bind fun t132 => (if t132 = true then ((chanceryref3_In.f x129004 0 10000000).bind fun t133 => (if t133 = true then ((chanceryref3_In.f x129005 (-1048576) 1048576).bind fun t134 => (if t134 = true then ((chanceryref3_In.f x129006 (-1048576) 1048576).bind fun t135 => (chancerylaw3_effectsError.j2 k x8 x9 x10 (!t135) x129000 x129001 x129002 x129003 x129004 x129005 x129006)) else (chancerylaw3_effectsError.j2 k x8 x9 x10 (!t134) x129000 x129001 x129002 x129003 x129004 x129005 x129006))) else (chancerylaw3_effectsError.j2 k x8 x9 x10 (!t133) x129000 x129001 x129002 x129003 x129004 x129005 x129006))) else (chancerylaw3_effectsError.j2 k x8 x9 x10 (!t132) x129000 x129001 x129002 x129003 x129004 x129005 x129006))) else (chancerylaw3_effectsError.j2 k x8 x9 x10 (!t131) x129000 x129001 x129002 x129003 x129004 x129005 x129006)))
def chancerylaw3_effectsError.j2 : Nat → List (S37) → Int → Int → Bool → Int → Int → Int → Int → Int → Int → Int → Option (Int)
  | 0, _, _, _, _, _, _, _, _, _, _, _ => none
  | k + 1, x8, x9, x10, x23, x129000, x129001, x129002, x129003, x129004, x129005, x129006 => if x23 = true then (some 2) else (if x129001 = 2 then (chancerylaw3_effectsError.l0 k x8 x9 (wrap64 (x10 + 1))) else (if x129005 = 0 then (if x129006 = 0 then (chancerylaw3_effectsError.l0 k x8 x9 (wrap64 (x10 + 1))) else (some 4)) else (some 4)))
end
def chancerylaw3_effectsError.f (k : Nat) (l0 : List (S37)) : Option (Int) := if (l0.length : Int) > 200 then (some 3) else (chancerylaw3_effectsError.l0 k l0 (l0.length : Int) 0)
theorem chancerylaw3_effectsError.mono_l : ∀ k, (∀ y0 y1 y2, LeO (chancerylaw3_effectsError.l0 k y0 y1 y2) (chancerylaw3_effectsError.l0 (k + 1) y0 y1 y2)) ∧ (∀ y0 y1 y2 y3 y4 y5 y6 y7 y8 y9 y10, LeO (chancerylaw3_effectsError.j1 k y0 y1 y2 y3 y4 y5 y6 y7 y8 y9 y10) (chancerylaw3_effectsError.j1 (k + 1) y0 y1 y2 y3 y4 y5 y6 y7 y8 y9 y10)) ∧ (∀ y0 y1 y2 y3 y4 y5 y6 y7 y8 y9 y10, LeO (chancerylaw3_effectsError.j2 k y0 y1 y2 y3 y4 y5 y6 y7 y8 y9 y10) (chancerylaw3_effectsError.j2 (k + 1) y0 y1 y2 y3 y4 y5 y6 y7 y8 y9 y10))
  | 0 => ⟨fun _ _ _ r h => by simp [chancerylaw3_effectsError.l0] at h, fun _ _ _ _ _ _ _ _ _ _ _ r h => by simp [chancerylaw3_effectsError.j1] at h, fun _ _ _ _ _ _ _ _ _ _ _ r h => by simp [chancerylaw3_effectsError.j2] at h⟩
  | k + 1 => by
    obtain ⟨ih0, ih1, ih2⟩ := chancerylaw3_effectsError.mono_l k
    refine ⟨?_, ?_, ?_⟩
    · intro y0 y1 y2
      unfold chancerylaw3_effectsError.l0
      repeat' first
      | (with_reducible exact ih0 _ _ _)
      | (with_reducible exact ih1 _ _ _ _ _ _ _ _ _ _ _)
      | (with_reducible exact ih2 _ _ _ _ _ _ _ _ _ _ _)
      | (with_reducible exact LeO.refl _)
      | (with_reducible exact LeO.none _)
      | (with_reducible refine LeO.ite ?_ ?_)
      | (with_reducible refine LeO.bind ?_ (fun _ => ?_))
      | exact ih0 _ _ _
      | exact ih1 _ _ _ _ _ _ _ _ _ _ _
      | exact ih2 _ _ _ _ _ _ _ _ _ _ _
      | exact LeO.none _
      | refine LeO.ite ?_ ?_
      | refine LeO.bind ?_ (fun _ => ?_)
    · intro y0 y1 y2 y3 y4 y5 y6 y7 y8 y9 y10
      unfold chancerylaw3_effectsError.j1
      repeat' first
      | (with_reducible exact ih0 _ _ _)
      | (with_reducible exact ih1 _ _ _ _ _ _ _ _ _ _ _)
      | (with_reducible exact ih2 _ _ _ _ _ _ _ _ _ _ _)
      | (with_reducible exact LeO.refl _)
      | (with_reducible exact LeO.none _)
      | (with_reducible refine LeO.ite ?_ ?_)
      | (with_reducible refine LeO.bind ?_ (fun _ => ?_))
      | exact ih0 _ _ _
      | exact ih1 _ _ _ _ _ _ _ _ _ _ _
      | exact ih2 _ _ _ _ _ _ _ _ _ _ _
      | exact LeO.none _
      | refine LeO.ite ?_ ?_
      | refine LeO.bind ?_ (fun _ => ?_)
    · intro y0 y1 y2 y3 y4 y5 y6 y7 y8 y9 y10
      unfold chancerylaw3_effectsError.j2
      repeat' first
      | (with_reducible exact ih0 _ _ _)
      | (with_reducible exact ih1 _ _ _ _ _ _ _ _ _ _ _)
      | (with_reducible exact ih2 _ _ _ _ _ _ _ _ _ _ _)
      | (with_reducible exact LeO.refl _)
      | (with_reducible exact LeO.none _)
      | (with_reducible refine LeO.ite ?_ ?_)
      | (with_reducible refine LeO.bind ?_ (fun _ => ?_))
      | exact ih0 _ _ _
      | exact ih1 _ _ _ _ _ _ _ _ _ _ _
      | exact ih2 _ _ _ _ _ _ _ _ _ _ _
      | exact LeO.none _
      | refine LeO.ite ?_ ?_
      | refine LeO.bind ?_ (fun _ => ?_)
theorem chancerylaw3_effectsError.mono : ∀ a0 k, LeO (chancerylaw3_effectsError.f k a0) (chancerylaw3_effectsError.f (k + 1) a0) := by
  intro a0 k
  obtain ⟨ih0, ih1, ih2⟩ := chancerylaw3_effectsError.mono_l k
  unfold chancerylaw3_effectsError.f
  repeat' first
      | (with_reducible exact ih0 _ _ _)
      | (with_reducible exact ih1 _ _ _ _ _ _ _ _ _ _ _)
      | (with_reducible exact ih2 _ _ _ _ _ _ _ _ _ _ _)
      | (with_reducible exact LeO.refl _)
      | (with_reducible exact LeO.none _)
      | (with_reducible refine LeO.ite ?_ ?_)
      | (with_reducible refine LeO.bind ?_ (fun _ => ?_))
      | exact ih0 _ _ _
      | exact ih1 _ _ _ _ _ _ _ _ _ _ _
      | exact ih2 _ _ _ _ _ _ _ _ _ _ _
      | exact LeO.none _
      | refine LeO.ite ?_ ?_
      | refine LeO.bind ?_ (fun _ => ?_)
set_option maxHeartbeats 8000000 in
set_option maxRecDepth 100000 in
theorem chancerylaw3_effectsError.calls (k : Nat) (A0 : Option Addr) (c0 : Nat) (l0 : List (S37)) (r : Int) (w : World) (hr0 : Kd.C k37 w A0 l0.length l0) (hc0 : l0.length ≤ c0) (h : chancerylaw3_effectsError.f k l0 = some r) :
    Calls Try.prog 6 #[.slice A0 l0.length c0] w fun e w' => e = .returned (.int .i64 r) ∧ Below w.heap.size w w' := by
  have hu37 := Try.underlying37
  have HR0 := Aside0.mk hr0
  have HC0 := Aside0.mk hc0
  clear hr0 hc0
  have HB := Aside0.mk (Below.refl w.heap.size w)
  have H : (if (l0.length : Int) > 200 then (some 3) else (chancerylaw3_effectsError.l0 k l0 (l0.length : Int) 0)) = some r := h
  clear h
  by_cases c2 : (l0.length : Int) > 200
  · rw [if_pos c2] at H
    have c2b0 : decide (200 < (l0.length : Int)) = true := decide_eq_true c2
    have c2b1 : decide (200 < l0.length) = true := decide_eq_true (by omega)
    clear c2
    obtain rfl := Option.some.inj H
    go_enter Try.func6, Try.ntmps6
    go_wp2
    go_ret
    exact ⟨by first | rfl | (simp [errW_none, errW_some] <;> rfl) | (simp [*, errW_none, errW_some] <;> rfl), by repeat (first | (with_reducible first | exact HB.out | apply below_alloc | apply pw_below_drewN | apply below_drew1) | exact HB.out)⟩
  · rw [if_neg c2] at H
    have c2b0 : decide (200 < (l0.length : Int)) = false := decide_eq_false c2
    have c2b1 : decide (200 < l0.length) = false := decide_eq_false (by omega)
    clear c2
    have H' := Aside0.mk H
    clear H
    go_enter Try.func6, Try.ntmps6
    go_wp2
    go_loopg [10] k (fun kq v10 w' => ∃ (x10_1 : Int), v10 = .int .i64 x10_1 ∧ Aside0 (chancerylaw3_effectsError.l0 kq l0 (l0.length : Int) x10_1 = some r) ∧ Aside0 (kq ≤ k) ∧ Aside0 (Below w.heap.size w w'))
    case atStart => exact ⟨(0), (by first | rfl | (simp; done) | (simp [*]; done)), H', ⟨Nat.le_refl _⟩, ⟨by repeat (first | (with_reducible first | exact HB.out | apply below_alloc | apply pw_below_drewN | apply below_drew1) | exact HB.out)⟩⟩
    case round =>
      clear H'
      try clear c2
      try clear c2b0
      try clear c2b1
      try clear p2
      obtain ⟨x10_1, rfl, HA, HK1, HB⟩ := hrel
      cases gk with
      | zero => exact absurd HA.out (by simp [chancerylaw3_effectsError.l0])
      | succ k1 =>
        have H := HA.out
        clear HA
        simp only [chancerylaw3_effectsError.l0] at H
        by_cases c3 : x10_1 < (l0.length : Int)
        · rw [if_pos c3] at H
          have c3b0 : decide (x10_1 < (l0.length : Int)) = true := decide_eq_true c3
          clear c3
          by_cases c4 : 0 ≤ x10_1
          · rw [if_pos c4] at H
            have c4b0 : decide (0 ≤ x10_1) = true := decide_eq_true c4
            clear c4
            by_cases c5 : x10_1 < (l0.length : Int)
            · rw [if_pos c5] at H
              have c5b0 : decide (x10_1 < (l0.length : Int)) = true := decide_eq_true c5
              clear c5
              replace H := Option.bind_eq_some_iff.mp H
              obtain ⟨t129, A60, H⟩ := H
              replace H : (if t129 = true then ((chanceryref3_In.f ((rd_T37 l0 x10_1).f2) 0 2).bind fun t130 => (chancerylaw3_effectsError.j1 k1 l0 (l0.length : Int) x10_1 (!t130) ((rd_T37 l0 x10_1).f0) ((rd_T37 l0 x10_1).f1) ((rd_T37 l0 x10_1).f2) ((rd_T37 l0 x10_1).f3) ((rd_T37 l0 x10_1).f4) ((rd_T37 l0 x10_1).f5) ((rd_T37 l0 x10_1).f6))) else (chancerylaw3_effectsError.j1 k1 l0 (l0.length : Int) x10_1 (!t129) ((rd_T37 l0 x10_1).f0) ((rd_T37 l0 x10_1).f1) ((rd_T37 l0 x10_1).f2) ((rd_T37 l0 x10_1).f3) ((rd_T37 l0 x10_1).f4) ((rd_T37 l0 x10_1).f5) ((rd_T37 l0 x10_1).f6))) = some r := H
              have A6 := Aside0.mk A60
              clear A60
              have HC7 := Aside0.mk H
              clear H
              have p127 : 0 ≤ (x10_1 : Int) := of_decide_eq_true (by first | (with_reducible assumption) | assumption)
              have q127 : x10_1 < (l0.length : Int) := of_decide_eq_true (by first | (with_reducible assumption) | assumption)
              obtain ⟨ad127, e127, hx127_0, hx127_1, hx127_2, hx127_3, hx127_4, hx127_5, hx127_6⟩ := at_T37 HR0.out x10_1 p127 q127
              cases e127
              replace hx127_0 := (HB.out.cell (World.block_lt_of_cell? w _ hx127_0)).trans hx127_0
              replace hx127_1 := (HB.out.cell (World.block_lt_of_cell? w _ hx127_1)).trans hx127_1
              replace hx127_2 := (HB.out.cell (World.block_lt_of_cell? w _ hx127_2)).trans hx127_2
              replace hx127_3 := (HB.out.cell (World.block_lt_of_cell? w _ hx127_3)).trans hx127_3
              replace hx127_4 := (HB.out.cell (World.block_lt_of_cell? w _ hx127_4)).trans hx127_4
              replace hx127_5 := (HB.out.cell (World.block_lt_of_cell? w _ hx127_5)).trans hx127_5
              replace hx127_6 := (HB.out.cell (World.block_lt_of_cell? w _ hx127_6)).trans hx127_6
              replace p127 := eq_true p127
              replace q127 := eq_true q127
              go_upto_if 14 with (first | ((with_reducible refine gate_dst (N := 4) rfl ?_); refine box_event ?hg (N := 4) ?hd (cs := #[.int .i64 0, .int .i64 0, .int .i64 0, .int .i64 0, .int .i64 0, .int .i64 0, .int .i64 0]) (t := 37) ?hr ?_; (case hd => rfl); (case hg => rfl); (case hr => first | (go_simp; done) | (go_simp; rfl)); intro gb128 hg w8 hbox hb; have n0_ := Aside0.mk (below_step (by repeat (first | (with_reducible first | exact HB.out | apply below_alloc | apply pw_below_drewN | apply below_drew1) | exact HB.out)) hb); have n1_ := Aside0.mk (hbox); have n2_ := Aside0.mk ((by rw [hg]; exact (below_size (by repeat (first | (with_reducible first | exact HB.out | apply below_alloc | apply pw_below_drewN | apply below_drew1) | exact HB.out))) : w.heap.size ≤ gb128)); have n3_ := Aside0.mk ((by rw [hg]; exact (below_size (by repeat (first | (with_reducible first | exact HB.out | apply below_alloc | apply pw_below_drewN | apply below_drew1) | exact HB.out))) : w.heap.size ≤ gb128)); clear HB; have HB := n0_; have BK128 := n1_; have GW128 := n2_; have GE128 := n3_; clear n0_ n1_ n2_ n3_; clear hb hbox hg; have hcz9_0 : w8.cell? ⟨gb128, 0, none⟩ = some (.int .i64 0) := (blk_cell BK128.out 0).trans rfl; have hcz9_1 : w8.cell? ⟨gb128, 1, none⟩ = some (.int .i64 0) := (blk_cell BK128.out 1).trans rfl; have hcz9_2 : w8.cell? ⟨gb128, 2, none⟩ = some (.int .i64 0) := (blk_cell BK128.out 2).trans rfl; have hcz9_3 : w8.cell? ⟨gb128, 3, none⟩ = some (.int .i64 0) := (blk_cell BK128.out 3).trans rfl; have hcz9_4 : w8.cell? ⟨gb128, 4, none⟩ = some (.int .i64 0) := (blk_cell BK128.out 4).trans rfl; have hcz9_5 : w8.cell? ⟨gb128, 5, none⟩ = some (.int .i64 0) := (blk_cell BK128.out 5).trans rfl; have hcz9_6 : w8.cell? ⟨gb128, 6, none⟩ = some (.int .i64 0) := (blk_cell BK128.out 6).trans rfl; have hfz9_0 := blk_frozen BK128.out 0; have hfz9_1 := blk_frozen BK128.out 1; have hfz9_2 := blk_frozen BK128.out 2; have hfz9_3 := blk_frozen BK128.out 3; have hfz9_4 := blk_frozen BK128.out 4; have hfz9_5 := blk_frozen BK128.out 5; have hfz9_6 := blk_frozen BK128.out 6) | ((with_reducible refine gate_callee (f := 7) rfl ?_); refine goesL_ (some 17) rfl rfl Try.func7 (by kernel_rfl) rfl #[.int .i64 ((rd_T37 l0 x10_1).f1), .int .i64 0, .int .i64 2] rfl (by (try simp only [List.map_toArray, List.map_cons, List.map_nil]); first | done | rfl | (simp only [List.length_drop, List.length_take]; rfl)) ?_; (with_reducible refine (chanceryref3_In.calls ((rd_T37 l0 x10_1).f1) 0 2 t129 _ A6.out).mono ?_); rintro e w' ⟨rfl, ⟨nd, rfl⟩⟩; refine ⟨_, rfl, ?_⟩))
              (try simp only [Act.put, List.setIfInBounds_toArray, List.set_cons_zero, List.set_cons_succ])
              go_cut [14] (fun v14 wc => ∃ (kq : Nat) (x14_6 : Bool), v14 = .bool x14_6 ∧ Aside0 (chancerylaw3_effectsError.j1 kq l0 (l0.length : Int) x10_1 x14_6 ((rd_T37 l0 x10_1).f0) ((rd_T37 l0 x10_1).f1) ((rd_T37 l0 x10_1).f2) ((rd_T37 l0 x10_1).f3) ((rd_T37 l0 x10_1).f4) ((rd_T37 l0 x10_1).f5) ((rd_T37 l0 x10_1).f6) = some r) ∧ Aside0 (kq ≤ k1) ∧ Aside0 (wc.heap[gb128]? = some (.cells #[.int .i64 ((rd_T37 l0 x10_1).f0), .int .i64 ((rd_T37 l0 x10_1).f1), .int .i64 ((rd_T37 l0 x10_1).f2), .int .i64 ((rd_T37 l0 x10_1).f3), .int .i64 ((rd_T37 l0 x10_1).f4), .int .i64 ((rd_T37 l0 x10_1).f5), .int .i64 ((rd_T37 l0 x10_1).f6)] 37 (0, 0))) ∧ Aside0 (Below w.heap.size w wc))
              case first =>
                have H := HC7.out
                clear HC7
                by_cases c10 : t129 = true
                · subst c10
                  have H1 : ((chanceryref3_In.f ((rd_T37 l0 x10_1).f2) 0 2).bind fun t130 => (chancerylaw3_effectsError.j1 k1 l0 (l0.length : Int) x10_1 (!t130) ((rd_T37 l0 x10_1).f0) ((rd_T37 l0 x10_1).f1) ((rd_T37 l0 x10_1).f2) ((rd_T37 l0 x10_1).f3) ((rd_T37 l0 x10_1).f4) ((rd_T37 l0 x10_1).f5) ((rd_T37 l0 x10_1).f6))) = some r := by rw [if_pos rfl] at H; exact H
                  clear H
                  have H := H1
                  clear H1
                  replace H := Option.bind_eq_some_iff.mp H
                  obtain ⟨t130, A110, H⟩ := H
                  replace H : (chancerylaw3_effectsError.j1 k1 l0 (l0.length : Int) x10_1 (!t130) ((rd_T37 l0 x10_1).f0) ((rd_T37 l0 x10_1).f1) ((rd_T37 l0 x10_1).f2) ((rd_T37 l0 x10_1).f3) ((rd_T37 l0 x10_1).f4) ((rd_T37 l0 x10_1).f5) ((rd_T37 l0 x10_1).f6)) = some r := H
                  have A11 := Aside0.mk A110
                  clear A110
                  have H' := Aside0.mk H
                  clear H
                  have hcz12_0 : w8.cell? ⟨gb128, 0, none⟩ = some (.int .i64 0) := (blk_cell BK128.out 0).trans rfl
                  have hcz12_1 : w8.cell? ⟨gb128, 1, none⟩ = some (.int .i64 0) := (blk_cell BK128.out 1).trans rfl
                  have hcz12_2 : w8.cell? ⟨gb128, 2, none⟩ = some (.int .i64 0) := (blk_cell BK128.out 2).trans rfl
                  have hcz12_3 : w8.cell? ⟨gb128, 3, none⟩ = some (.int .i64 0) := (blk_cell BK128.out 3).trans rfl
                  have hcz12_4 : w8.cell? ⟨gb128, 4, none⟩ = some (.int .i64 0) := (blk_cell BK128.out 4).trans rfl
                  have hcz12_5 : w8.cell? ⟨gb128, 5, none⟩ = some (.int .i64 0) := (blk_cell BK128.out 5).trans rfl
                  have hcz12_6 : w8.cell? ⟨gb128, 6, none⟩ = some (.int .i64 0) := (blk_cell BK128.out 6).trans rfl
                  have hfz12_0 := blk_frozen BK128.out 0
                  have hfz12_1 := blk_frozen BK128.out 1
                  have hfz12_2 := blk_frozen BK128.out 2
                  have hfz12_3 := blk_frozen BK128.out 3
                  have hfz12_4 := blk_frozen BK128.out 4
                  have hfz12_5 := blk_frozen BK128.out 5
                  have hfz12_6 := blk_frozen BK128.out 6
                  go_wp2_with (first | ((with_reducible refine gate_callee (f := 7) rfl ?_); refine goesL_ (some 21) rfl rfl Try.func7 (by kernel_rfl) rfl #[.int .i64 ((rd_T37 l0 x10_1).f2), .int .i64 0, .int .i64 2] rfl (by (try simp only [List.map_toArray, List.map_cons, List.map_nil]); first | done | rfl | (simp only [List.length_drop, List.length_take]; rfl)) ?_; (with_reducible refine (chanceryref3_In.calls ((rd_T37 l0 x10_1).f2) 0 2 t130 _ A11.out).mono ?_); rintro e w' ⟨rfl, ⟨nd, rfl⟩⟩; refine ⟨_, rfl, ?_⟩))
                  go_meet
                  case rel => exact ⟨_, (!t130), (by first | rfl | (simp; done) | (simp [*]; done)), H', ⟨by have := HK1.out; first | omega | exact Nat.le_refl _⟩, ⟨by (with_reducible repeat (first | refine blk_drewN ?_ _ | refine blk_drew ?_ | refine blk_alloc ?_ _)); refine blk_put (cs := #[.int .i64 ((rd_T37 l0 x10_1).f0), .int .i64 ((rd_T37 l0 x10_1).f1), .int .i64 ((rd_T37 l0 x10_1).f2), .int .i64 ((rd_T37 l0 x10_1).f3), .int .i64 ((rd_T37 l0 x10_1).f4), .int .i64 ((rd_T37 l0 x10_1).f5), .int .i64 0]) ?_ 6 _ rfl; (with_reducible repeat (first | refine blk_drewN ?_ _ | refine blk_drew ?_ | refine blk_alloc ?_ _)); refine blk_put (cs := #[.int .i64 ((rd_T37 l0 x10_1).f0), .int .i64 ((rd_T37 l0 x10_1).f1), .int .i64 ((rd_T37 l0 x10_1).f2), .int .i64 ((rd_T37 l0 x10_1).f3), .int .i64 ((rd_T37 l0 x10_1).f4), .int .i64 0, .int .i64 0]) ?_ 5 _ rfl; (with_reducible repeat (first | refine blk_drewN ?_ _ | refine blk_drew ?_ | refine blk_alloc ?_ _)); refine blk_put (cs := #[.int .i64 ((rd_T37 l0 x10_1).f0), .int .i64 ((rd_T37 l0 x10_1).f1), .int .i64 ((rd_T37 l0 x10_1).f2), .int .i64 ((rd_T37 l0 x10_1).f3), .int .i64 0, .int .i64 0, .int .i64 0]) ?_ 4 _ rfl; (with_reducible repeat (first | refine blk_drewN ?_ _ | refine blk_drew ?_ | refine blk_alloc ?_ _)); refine blk_put (cs := #[.int .i64 ((rd_T37 l0 x10_1).f0), .int .i64 ((rd_T37 l0 x10_1).f1), .int .i64 ((rd_T37 l0 x10_1).f2), .int .i64 0, .int .i64 0, .int .i64 0, .int .i64 0]) ?_ 3 _ rfl; (with_reducible repeat (first | refine blk_drewN ?_ _ | refine blk_drew ?_ | refine blk_alloc ?_ _)); refine blk_put (cs := #[.int .i64 ((rd_T37 l0 x10_1).f0), .int .i64 ((rd_T37 l0 x10_1).f1), .int .i64 0, .int .i64 0, .int .i64 0, .int .i64 0, .int .i64 0]) ?_ 2 _ rfl; (with_reducible repeat (first | refine blk_drewN ?_ _ | refine blk_drew ?_ | refine blk_alloc ?_ _)); refine blk_put (cs := #[.int .i64 ((rd_T37 l0 x10_1).f0), .int .i64 0, .int .i64 0, .int .i64 0, .int .i64 0, .int .i64 0, .int .i64 0]) ?_ 1 _ rfl; (with_reducible repeat (first | refine blk_drewN ?_ _ | refine blk_drew ?_ | refine blk_alloc ?_ _)); refine blk_put (cs := #[.int .i64 0, .int .i64 0, .int .i64 0, .int .i64 0, .int .i64 0, .int .i64 0, .int .i64 0]) ?_ 0 _ rfl; (with_reducible repeat (first | refine blk_drewN ?_ _ | refine blk_drew ?_ | refine blk_alloc ?_ _)); exact BK128.out⟩, ⟨by repeat (first | (with_reducible first | exact HB.out | apply below_alloc | apply pw_below_drewN | apply below_drew1 | refine below_set ?_ GE128.out) | exact HB.out)⟩⟩
                · replace c10 := Bool.eq_false_iff.mpr c10
                  subst c10
                  have H1 : (chancerylaw3_effectsError.j1 k1 l0 (l0.length : Int) x10_1 (!false) ((rd_T37 l0 x10_1).f0) ((rd_T37 l0 x10_1).f1) ((rd_T37 l0 x10_1).f2) ((rd_T37 l0 x10_1).f3) ((rd_T37 l0 x10_1).f4) ((rd_T37 l0 x10_1).f5) ((rd_T37 l0 x10_1).f6)) = some r := by rw [if_neg (show ¬ (false = true) by decide)] at H; exact H
                  clear H
                  have H := H1
                  clear H1
                  have H' := Aside0.mk H
                  clear H
                  go_wp2
                  go_meet
                  case rel => exact ⟨_, (!false), (by first | rfl | (simp; done) | (simp [*]; done)), H', ⟨by have := HK1.out; first | omega | exact Nat.le_refl _⟩, ⟨by (with_reducible repeat (first | refine blk_drewN ?_ _ | refine blk_drew ?_ | refine blk_alloc ?_ _)); refine blk_put (cs := #[.int .i64 ((rd_T37 l0 x10_1).f0), .int .i64 ((rd_T37 l0 x10_1).f1), .int .i64 ((rd_T37 l0 x10_1).f2), .int .i64 ((rd_T37 l0 x10_1).f3), .int .i64 ((rd_T37 l0 x10_1).f4), .int .i64 ((rd_T37 l0 x10_1).f5), .int .i64 0]) ?_ 6 _ rfl; (with_reducible repeat (first | refine blk_drewN ?_ _ | refine blk_drew ?_ | refine blk_alloc ?_ _)); refine blk_put (cs := #[.int .i64 ((rd_T37 l0 x10_1).f0), .int .i64 ((rd_T37 l0 x10_1).f1), .int .i64 ((rd_T37 l0 x10_1).f2), .int .i64 ((rd_T37 l0 x10_1).f3), .int .i64 ((rd_T37 l0 x10_1).f4), .int .i64 0, .int .i64 0]) ?_ 5 _ rfl; (with_reducible repeat (first | refine blk_drewN ?_ _ | refine blk_drew ?_ | refine blk_alloc ?_ _)); refine blk_put (cs := #[.int .i64 ((rd_T37 l0 x10_1).f0), .int .i64 ((rd_T37 l0 x10_1).f1), .int .i64 ((rd_T37 l0 x10_1).f2), .int .i64 ((rd_T37 l0 x10_1).f3), .int .i64 0, .int .i64 0, .int .i64 0]) ?_ 4 _ rfl; (with_reducible repeat (first | refine blk_drewN ?_ _ | refine blk_drew ?_ | refine blk_alloc ?_ _)); refine blk_put (cs := #[.int .i64 ((rd_T37 l0 x10_1).f0), .int .i64 ((rd_T37 l0 x10_1).f1), .int .i64 ((rd_T37 l0 x10_1).f2), .int .i64 0, .int .i64 0, .int .i64 0, .int .i64 0]) ?_ 3 _ rfl; (with_reducible repeat (first | refine blk_drewN ?_ _ | refine blk_drew ?_ | refine blk_alloc ?_ _)); refine blk_put (cs := #[.int .i64 ((rd_T37 l0 x10_1).f0), .int .i64 ((rd_T37 l0 x10_1).f1), .int .i64 0, .int .i64 0, .int .i64 0, .int .i64 0, .int .i64 0]) ?_ 2 _ rfl; (with_reducible repeat (first | refine blk_drewN ?_ _ | refine blk_drew ?_ | refine blk_alloc ?_ _)); refine blk_put (cs := #[.int .i64 ((rd_T37 l0 x10_1).f0), .int .i64 0, .int .i64 0, .int .i64 0, .int .i64 0, .int .i64 0, .int .i64 0]) ?_ 1 _ rfl; (with_reducible repeat (first | refine blk_drewN ?_ _ | refine blk_drew ?_ | refine blk_alloc ?_ _)); refine blk_put (cs := #[.int .i64 0, .int .i64 0, .int .i64 0, .int .i64 0, .int .i64 0, .int .i64 0, .int .i64 0]) ?_ 0 _ rfl; (with_reducible repeat (first | refine blk_drewN ?_ _ | refine blk_drew ?_ | refine blk_alloc ?_ _)); exact BK128.out⟩, ⟨by repeat (first | (with_reducible first | exact HB.out | apply below_alloc | apply pw_below_drewN | apply below_drew1 | refine below_set ?_ GE128.out) | exact HB.out)⟩⟩
              case rest =>
                clear HC7
                try clear c1
                try clear p1
                try clear q1
                try clear hx1
                try clear c2
                try clear c2b0
                try clear c2b1
                try clear p2
                try clear c3
                try clear c3b0
                try clear c4
                try clear c4b0
                try clear c5
                try clear c5b0
                try clear c6
                try clear c7
                try clear c10
                try clear p12
                try clear q12
                try clear hx12
                try clear hcz12_0
                try clear hcz12_1
                try clear hcz12_2
                try clear hcz12_3
                try clear hcz12_4
                try clear hcz12_5
                try clear hcz12_6
                try clear hcz9_0
                try clear hcz9_1
                try clear hcz9_2
                try clear hcz9_3
                try clear hcz9_4
                try clear hcz9_5
                try clear hcz9_6
                try clear hfz12_0
                try clear hfz12_1
                try clear hfz12_2
                try clear hfz12_3
                try clear hfz12_4
                try clear hfz12_5
                try clear hfz12_6
                try clear hfz9_0
                try clear hfz9_1
                try clear hfz9_2
                try clear hfz9_3
                try clear hfz9_4
                try clear hfz9_5
                try clear hfz9_6
                try clear hx127_0
                try clear hx127_1
                try clear hx127_2
                try clear hx127_3
                try clear hx127_4
                try clear hx127_5
                try clear hx127_6
                try clear p127
                try clear p2
                try clear q127
                obtain ⟨kq, x14_6, rfl, HA, HJ6, BK128, HB⟩ := hcut
                cases kq with
                | zero => exact absurd HA.out (by simp [chancerylaw3_effectsError.j1])
                | succ kj6 =>
                  have H := HA.out
                  clear HA
                  simp only [chancerylaw3_effectsError.j1] at H
                  by_cases c13 : x14_6 = true
                  · subst c13
                    have H1 : (some 8) = some r := by rw [if_pos rfl] at H; exact H
                    clear H
                    have H := H1
                    clear H1
                    obtain rfl := Option.some.inj H
                    go_wp2
                    go_ret
                    exact ⟨by first | rfl | (simp [errW_none, errW_some] <;> rfl) | (simp [*, errW_none, errW_some] <;> rfl), by repeat (first | (with_reducible first | exact HB.out | apply below_alloc | apply pw_below_drewN | apply below_drew1 | refine below_set ?_ GE128.out) | exact HB.out)⟩
                  · replace c13 := Bool.eq_false_iff.mpr c13
                    subst c13
                    have H1 : ((chanceryref3_In.f ((rd_T37 l0 x10_1).f0) 1 1073741824).bind fun t131 => (if t131 = true then ((chanceryref3_In.f ((rd_T37 l0 x10_1).f3) 0 10000000).bind fun t132 => (if t132 = true then ((chanceryref3_In.f ((rd_T37 l0 x10_1).f4) 0 10000000).bind fun t133 => (if t133 = true then ((chanceryref3_In.f ((rd_T37 l0 x10_1).f5) (-1048576) 1048576).bind fun t134 => (if t134 = true then ((chanceryref3_In.f ((rd_T37 l0 x10_1).f6) (-1048576) 1048576).bind fun t135 => (chancerylaw3_effectsError.j2 kj6 l0 (l0.length : Int) x10_1 (!t135) ((rd_T37 l0 x10_1).f0) ((rd_T37 l0 x10_1).f1) ((rd_T37 l0 x10_1).f2) ((rd_T37 l0 x10_1).f3) ((rd_T37 l0 x10_1).f4) ((rd_T37 l0 x10_1).f5) ((rd_T37 l0 x10_1).f6))) else (chancerylaw3_effectsError.j2 kj6 l0 (l0.length : Int) x10_1 (!t134) ((rd_T37 l0 x10_1).f0) ((rd_T37 l0 x10_1).f1) ((rd_T37 l0 x10_1).f2) ((rd_T37 l0 x10_1).f3) ((rd_T37 l0 x10_1).f4) ((rd_T37 l0 x10_1).f5) ((rd_T37 l0 x10_1).f6)))) else (chancerylaw3_effectsError.j2 kj6 l0 (l0.length : Int) x10_1 (!t133) ((rd_T37 l0 x10_1).f0) ((rd_T37 l0 x10_1).f1) ((rd_T37 l0 x10_1).f2) ((rd_T37 l0 x10_1).f3) ((rd_T37 l0 x10_1).f4) ((rd_T37 l0 x10_1).f5) ((rd_T37 l0 x10_1).f6)))) else (chancerylaw3_effectsError.j2 kj6 l0 (l0.length : Int) x10_1 (!t132) ((rd_T37 l0 x10_1).f0) ((rd_T37 l0 x10_1).f1) ((rd_T37 l0 x10_1).f2) ((rd_T37 l0 x10_1).f3) ((rd_T37 l0 x10_1).f4) ((rd_T37 l0 x10_1).f5) ((rd_T37 l0 x10_1).f6)))) else (chancerylaw3_effectsError.j2 kj6 l0 (l0.length : Int) x10_1 (!t131) ((rd_T37 l0 x10_1).f0) ((rd_T37 l0 x10_1).f1) ((rd_T37 l0 x10_1).f2) ((rd_T37 l0 x10_1).f3) ((rd_T37 l0 x10_1).f4) ((rd_T37 l0 x10_1).f5) ((rd_T37 l0 x10_1).f6)))) = some r := by rw [if_neg (show ¬ (false = true) by decide)] at H; exact H
                    clear H
                    have H := H1
                    clear H1
                    replace H := Option.bind_eq_some_iff.mp H
                    obtain ⟨t131, A140, H⟩ := H
                    replace H : (if t131 = true then ((chanceryref3_In.f ((rd_T37 l0 x10_1).f3) 0 10000000).bind fun t132 => (if t132 = true then ((chanceryref3_In.f ((rd_T37 l0 x10_1).f4) 0 10000000).bind fun t133 => (if t133 = true then ((chanceryref3_In.f ((rd_T37 l0 x10_1).f5) (-1048576) 1048576).bind fun t134 => (if t134 = true then ((chanceryref3_In.f ((rd_T37 l0 x10_1).f6) (-1048576) 1048576).bind fun t135 => (chancerylaw3_effectsError.j2 kj6 l0 (l0.length : Int) x10_1 (!t135) ((rd_T37 l0 x10_1).f0) ((rd_T37 l0 x10_1).f1) ((rd_T37 l0 x10_1).f2) ((rd_T37 l0 x10_1).f3) ((rd_T37 l0 x10_1).f4) ((rd_T37 l0 x10_1).f5) ((rd_T37 l0 x10_1).f6))) else (chancerylaw3_effectsError.j2 kj6 l0 (l0.length : Int) x10_1 (!t134) ((rd_T37 l0 x10_1).f0) ((rd_T37 l0 x10_1).f1) ((rd_T37 l0 x10_1).f2) ((rd_T37 l0 x10_1).f3) ((rd_T37 l0 x10_1).f4) ((rd_T37 l0 x10_1).f5) ((rd_T37 l0 x10_1).f6)))) else (chancerylaw3_effectsError.j2 kj6 l0 (l0.length : Int) x10_1 (!t133) ((rd_T37 l0 x10_1).f0) ((rd_T37 l0 x10_1).f1) ((rd_T37 l0 x10_1).f2) ((rd_T37 l0 x10_1).f3) ((rd_T37 l0 x10_1).f4) ((rd_T37 l0 x10_1).f5) ((rd_T37 l0 x10_1).f6)))) else (chancerylaw3_effectsError.j2 kj6 l0 (l0.length : Int) x10_1 (!t132) ((rd_T37 l0 x10_1).f0) ((rd_T37 l0 x10_1).f1) ((rd_T37 l0 x10_1).f2) ((rd_T37 l0 x10_1).f3) ((rd_T37 l0 x10_1).f4) ((rd_T37 l0 x10_1).f5) ((rd_T37 l0 x10_1).f6)))) else (chancerylaw3_effectsError.j2 kj6 l0 (l0.length : Int) x10_1 (!t131) ((rd_T37 l0 x10_1).f0) ((rd_T37 l0 x10_1).f1) ((rd_T37 l0 x10_1).f2) ((rd_T37 l0 x10_1).f3) ((rd_T37 l0 x10_1).f4) ((rd_T37 l0 x10_1).f5) ((rd_T37 l0 x10_1).f6))) = some r := H
                    have A14 := Aside0.mk A140
                    clear A140
                    have HC15 := Aside0.mk H
                    clear H
                    have hcz16_0 : wc.cell? ⟨gb128, 0, none⟩ = some (.int .i64 ((rd_T37 l0 x10_1).f0)) := (blk_cell BK128.out 0).trans rfl
                    have hcz16_1 : wc.cell? ⟨gb128, 1, none⟩ = some (.int .i64 ((rd_T37 l0 x10_1).f1)) := (blk_cell BK128.out 1).trans rfl
                    have hcz16_2 : wc.cell? ⟨gb128, 2, none⟩ = some (.int .i64 ((rd_T37 l0 x10_1).f2)) := (blk_cell BK128.out 2).trans rfl
                    have hcz16_3 : wc.cell? ⟨gb128, 3, none⟩ = some (.int .i64 ((rd_T37 l0 x10_1).f3)) := (blk_cell BK128.out 3).trans rfl
                    have hcz16_4 : wc.cell? ⟨gb128, 4, none⟩ = some (.int .i64 ((rd_T37 l0 x10_1).f4)) := (blk_cell BK128.out 4).trans rfl
                    have hcz16_5 : wc.cell? ⟨gb128, 5, none⟩ = some (.int .i64 ((rd_T37 l0 x10_1).f5)) := (blk_cell BK128.out 5).trans rfl
                    have hcz16_6 : wc.cell? ⟨gb128, 6, none⟩ = some (.int .i64 ((rd_T37 l0 x10_1).f6)) := (blk_cell BK128.out 6).trans rfl
                    have hfz16_0 := blk_frozen BK128.out 0
                    have hfz16_1 := blk_frozen BK128.out 1
                    have hfz16_2 := blk_frozen BK128.out 2
                    have hfz16_3 := blk_frozen BK128.out 3
                    have hfz16_4 := blk_frozen BK128.out 4
                    have hfz16_5 := blk_frozen BK128.out 5
                    have hfz16_6 := blk_frozen BK128.out 6
                    go_upto_if 23 with (first | ((with_reducible refine gate_callee (f := 7) rfl ?_); refine goesL_ (some 26) rfl rfl Try.func7 (by kernel_rfl) rfl #[.int .i64 ((rd_T37 l0 x10_1).f0), .int .i64 1, .int .i64 1073741824] rfl (by (try simp only [List.map_toArray, List.map_cons, List.map_nil]); first | done | rfl | (simp only [List.length_drop, List.length_take]; rfl)) ?_; (with_reducible refine (chanceryref3_In.calls ((rd_T37 l0 x10_1).f0) 1 1073741824 t131 _ A14.out).mono ?_); rintro e w' ⟨rfl, ⟨nd, rfl⟩⟩; refine ⟨_, rfl, ?_⟩))
                    (try simp only [Act.put, List.setIfInBounds_toArray, List.set_cons_zero, List.set_cons_succ])
                    go_cut [23] (fun v23 wc => ∃ (kq : Nat) (x23_14 : Bool), v23 = .bool x23_14 ∧ Aside0 (chancerylaw3_effectsError.j2 kq l0 (l0.length : Int) x10_1 x23_14 ((rd_T37 l0 x10_1).f0) ((rd_T37 l0 x10_1).f1) ((rd_T37 l0 x10_1).f2) ((rd_T37 l0 x10_1).f3) ((rd_T37 l0 x10_1).f4) ((rd_T37 l0 x10_1).f5) ((rd_T37 l0 x10_1).f6) = some r) ∧ Aside0 (kq ≤ kj6) ∧ Aside0 (wc.heap[gb128]? = some (.cells #[.int .i64 ((rd_T37 l0 x10_1).f0), .int .i64 ((rd_T37 l0 x10_1).f1), .int .i64 ((rd_T37 l0 x10_1).f2), .int .i64 ((rd_T37 l0 x10_1).f3), .int .i64 ((rd_T37 l0 x10_1).f4), .int .i64 ((rd_T37 l0 x10_1).f5), .int .i64 ((rd_T37 l0 x10_1).f6)] 37 (0, 0))) ∧ Aside0 (Below w.heap.size w wc))
                    case first =>
                      have H := HC15.out
                      clear HC15
                      by_cases c17 : t131 = true
                      · subst c17
                        have H1 : ((chanceryref3_In.f ((rd_T37 l0 x10_1).f3) 0 10000000).bind fun t132 => (if t132 = true then ((chanceryref3_In.f ((rd_T37 l0 x10_1).f4) 0 10000000).bind fun t133 => (if t133 = true then ((chanceryref3_In.f ((rd_T37 l0 x10_1).f5) (-1048576) 1048576).bind fun t134 => (if t134 = true then ((chanceryref3_In.f ((rd_T37 l0 x10_1).f6) (-1048576) 1048576).bind fun t135 => (chancerylaw3_effectsError.j2 kj6 l0 (l0.length : Int) x10_1 (!t135) ((rd_T37 l0 x10_1).f0) ((rd_T37 l0 x10_1).f1) ((rd_T37 l0 x10_1).f2) ((rd_T37 l0 x10_1).f3) ((rd_T37 l0 x10_1).f4) ((rd_T37 l0 x10_1).f5) ((rd_T37 l0 x10_1).f6))) else (chancerylaw3_effectsError.j2 kj6 l0 (l0.length : Int) x10_1 (!t134) ((rd_T37 l0 x10_1).f0) ((rd_T37 l0 x10_1).f1) ((rd_T37 l0 x10_1).f2) ((rd_T37 l0 x10_1).f3) ((rd_T37 l0 x10_1).f4) ((rd_T37 l0 x10_1).f5) ((rd_T37 l0 x10_1).f6)))) else (chancerylaw3_effectsError.j2 kj6 l0 (l0.length : Int) x10_1 (!t133) ((rd_T37 l0 x10_1).f0) ((rd_T37 l0 x10_1).f1) ((rd_T37 l0 x10_1).f2) ((rd_T37 l0 x10_1).f3) ((rd_T37 l0 x10_1).f4) ((rd_T37 l0 x10_1).f5) ((rd_T37 l0 x10_1).f6)))) else (chancerylaw3_effectsError.j2 kj6 l0 (l0.length : Int) x10_1 (!t132) ((rd_T37 l0 x10_1).f0) ((rd_T37 l0 x10_1).f1) ((rd_T37 l0 x10_1).f2) ((rd_T37 l0 x10_1).f3) ((rd_T37 l0 x10_1).f4) ((rd_T37 l0 x10_1).f5) ((rd_T37 l0 x10_1).f6)))) = some r := by rw [if_pos rfl] at H; exact H
                        clear H
                        have H := H1
                        clear H1
                        replace H := Option.bind_eq_some_iff.mp H
                        obtain ⟨t132, A180, H⟩ := H
                        replace H : (if t132 = true then ((chanceryref3_In.f ((rd_T37 l0 x10_1).f4) 0 10000000).bind fun t133 => (if t133 = true then ((chanceryref3_In.f ((rd_T37 l0 x10_1).f5) (-1048576) 1048576).bind fun t134 => (if t134 = true then ((chanceryref3_In.f ((rd_T37 l0 x10_1).f6) (-1048576) 1048576).bind fun t135 => (chancerylaw3_effectsError.j2 kj6 l0 (l0.length : Int) x10_1 (!t135) ((rd_T37 l0 x10_1).f0) ((rd_T37 l0 x10_1).f1) ((rd_T37 l0 x10_1).f2) ((rd_T37 l0 x10_1).f3) ((rd_T37 l0 x10_1).f4) ((rd_T37 l0 x10_1).f5) ((rd_T37 l0 x10_1).f6))) else (chancerylaw3_effectsError.j2 kj6 l0 (l0.length : Int) x10_1 (!t134) ((rd_T37 l0 x10_1).f0) ((rd_T37 l0 x10_1).f1) ((rd_T37 l0 x10_1).f2) ((rd_T37 l0 x10_1).f3) ((rd_T37 l0 x10_1).f4) ((rd_T37 l0 x10_1).f5) ((rd_T37 l0 x10_1).f6)))) else (chancerylaw3_effectsError.j2 kj6 l0 (l0.length : Int) x10_1 (!t133) ((rd_T37 l0 x10_1).f0) ((rd_T37 l0 x10_1).f1) ((rd_T37 l0 x10_1).f2) ((rd_T37 l0 x10_1).f3) ((rd_T37 l0 x10_1).f4) ((rd_T37 l0 x10_1).f5) ((rd_T37 l0 x10_1).f6)))) else (chancerylaw3_effectsError.j2 kj6 l0 (l0.length : Int) x10_1 (!t132) ((rd_T37 l0 x10_1).f0) ((rd_T37 l0 x10_1).f1) ((rd_T37 l0 x10_1).f2) ((rd_T37 l0 x10_1).f3) ((rd_T37 l0 x10_1).f4) ((rd_T37 l0 x10_1).f5) ((rd_T37 l0 x10_1).f6))) = some r := H
                        have A18 := Aside0.mk A180
                        clear A180
                        by_cases c19 : t132 = true
                        · subst c19
                          have H1 : ((chanceryref3_In.f ((rd_T37 l0 x10_1).f4) 0 10000000).bind fun t133 => (if t133 = true then ((chanceryref3_In.f ((rd_T37 l0 x10_1).f5) (-1048576) 1048576).bind fun t134 => (if t134 = true then ((chanceryref3_In.f ((rd_T37 l0 x10_1).f6) (-1048576) 1048576).bind fun t135 => (chancerylaw3_effectsError.j2 kj6 l0 (l0.length : Int) x10_1 (!t135) ((rd_T37 l0 x10_1).f0) ((rd_T37 l0 x10_1).f1) ((rd_T37 l0 x10_1).f2) ((rd_T37 l0 x10_1).f3) ((rd_T37 l0 x10_1).f4) ((rd_T37 l0 x10_1).f5) ((rd_T37 l0 x10_1).f6))) else (chancerylaw3_effectsError.j2 kj6 l0 (l0.length : Int) x10_1 (!t134) ((rd_T37 l0 x10_1).f0) ((rd_T37 l0 x10_1).f1) ((rd_T37 l0 x10_1).f2) ((rd_T37 l0 x10_1).f3) ((rd_T37 l0 x10_1).f4) ((rd_T37 l0 x10_1).f5) ((rd_T37 l0 x10_1).f6)))) else (chancerylaw3_effectsError.j2 kj6 l0 (l0.length : Int) x10_1 (!t133) ((rd_T37 l0 x10_1).f0) ((rd_T37 l0 x10_1).f1) ((rd_T37 l0 x10_1).f2) ((rd_T37 l0 x10_1).f3) ((rd_T37 l0 x10_1).f4) ((rd_T37 l0 x10_1).f5) ((rd_T37 l0 x10_1).f6)))) = some r := by rw [if_pos rfl] at H; exact H
                          clear H
                          have H := H1
                          clear H1
                          replace H := Option.bind_eq_some_iff.mp H
                          obtain ⟨t133, A200, H⟩ := H
                          replace H : (if t133 = true then ((chanceryref3_In.f ((rd_T37 l0 x10_1).f5) (-1048576) 1048576).bind fun t134 => (if t134 = true then ((chanceryref3_In.f ((rd_T37 l0 x10_1).f6) (-1048576) 1048576).bind fun t135 => (chancerylaw3_effectsError.j2 kj6 l0 (l0.length : Int) x10_1 (!t135) ((rd_T37 l0 x10_1).f0) ((rd_T37 l0 x10_1).f1) ((rd_T37 l0 x10_1).f2) ((rd_T37 l0 x10_1).f3) ((rd_T37 l0 x10_1).f4) ((rd_T37 l0 x10_1).f5) ((rd_T37 l0 x10_1).f6))) else (chancerylaw3_effectsError.j2 kj6 l0 (l0.length : Int) x10_1 (!t134) ((rd_T37 l0 x10_1).f0) ((rd_T37 l0 x10_1).f1) ((rd_T37 l0 x10_1).f2) ((rd_T37 l0 x10_1).f3) ((rd_T37 l0 x10_1).f4) ((rd_T37 l0 x10_1).f5) ((rd_T37 l0 x10_1).f6)))) else (chancerylaw3_effectsError.j2 kj6 l0 (l0.length : Int) x10_1 (!t133) ((rd_T37 l0 x10_1).f0) ((rd_T37 l0 x10_1).f1) ((rd_T37 l0 x10_1).f2) ((rd_T37 l0 x10_1).f3) ((rd_T37 l0 x10_1).f4) ((rd_T37 l0 x10_1).f5) ((rd_T37 l0 x10_1).f6))) = some r := H
                          have A20 := Aside0.mk A200
                          clear A200
                          by_cases c21 : t133 = true
                          · subst c21
                            have H1 : ((chanceryref3_In.f ((rd_T37 l0 x10_1).f5) (-1048576) 1048576).bind fun t134 => (if t134 = true then ((chanceryref3_In.f ((rd_T37 l0 x10_1).f6) (-1048576) 1048576).bind fun t135 => (chancerylaw3_effectsError.j2 kj6 l0 (l0.length : Int) x10_1 (!t135) ((rd_T37 l0 x10_1).f0) ((rd_T37 l0 x10_1).f1) ((rd_T37 l0 x10_1).f2) ((rd_T37 l0 x10_1).f3) ((rd_T37 l0 x10_1).f4) ((rd_T37 l0 x10_1).f5) ((rd_T37 l0 x10_1).f6))) else (chancerylaw3_effectsError.j2 kj6 l0 (l0.length : Int) x10_1 (!t134) ((rd_T37 l0 x10_1).f0) ((rd_T37 l0 x10_1).f1) ((rd_T37 l0 x10_1).f2) ((rd_T37 l0 x10_1).f3) ((rd_T37 l0 x10_1).f4) ((rd_T37 l0 x10_1).f5) ((rd_T37 l0 x10_1).f6)))) = some r := by rw [if_pos rfl] at H; exact H
                            clear H
                            have H := H1
                            clear H1
                            replace H := Option.bind_eq_some_iff.mp H
                            obtain ⟨t134, A220, H⟩ := H
                            replace H : (if t134 = true then ((chanceryref3_In.f ((rd_T37 l0 x10_1).f6) (-1048576) 1048576).bind fun t135 => (chancerylaw3_effectsError.j2 kj6 l0 (l0.length : Int) x10_1 (!t135) ((rd_T37 l0 x10_1).f0) ((rd_T37 l0 x10_1).f1) ((rd_T37 l0 x10_1).f2) ((rd_T37 l0 x10_1).f3) ((rd_T37 l0 x10_1).f4) ((rd_T37 l0 x10_1).f5) ((rd_T37 l0 x10_1).f6))) else (chancerylaw3_effectsError.j2 kj6 l0 (l0.length : Int) x10_1 (!t134) ((rd_T37 l0 x10_1).f0) ((rd_T37 l0 x10_1).f1) ((rd_T37 l0 x10_1).f2) ((rd_T37 l0 x10_1).f3) ((rd_T37 l0 x10_1).f4) ((rd_T37 l0 x10_1).f5) ((rd_T37 l0 x10_1).f6))) = some r := H
                            have A22 := Aside0.mk A220
                            clear A220
                            by_cases c23 : t134 = true
                            · subst c23
                              have H1 : ((chanceryref3_In.f ((rd_T37 l0 x10_1).f6) (-1048576) 1048576).bind fun t135 => (chancerylaw3_effectsError.j2 kj6 l0 (l0.length : Int) x10_1 (!t135) ((rd_T37 l0 x10_1).f0) ((rd_T37 l0 x10_1).f1) ((rd_T37 l0 x10_1).f2) ((rd_T37 l0 x10_1).f3) ((rd_T37 l0 x10_1).f4) ((rd_T37 l0 x10_1).f5) ((rd_T37 l0 x10_1).f6))) = some r := by rw [if_pos rfl] at H; exact H
                              clear H
                              have H := H1
                              clear H1
                              replace H := Option.bind_eq_some_iff.mp H
                              obtain ⟨t135, A240, H⟩ := H
                              replace H : (chancerylaw3_effectsError.j2 kj6 l0 (l0.length : Int) x10_1 (!t135) ((rd_T37 l0 x10_1).f0) ((rd_T37 l0 x10_1).f1) ((rd_T37 l0 x10_1).f2) ((rd_T37 l0 x10_1).f3) ((rd_T37 l0 x10_1).f4) ((rd_T37 l0 x10_1).f5) ((rd_T37 l0 x10_1).f6)) = some r := H
                              have A24 := Aside0.mk A240
                              clear A240
                              have H' := Aside0.mk H
                              clear H
                              have hcz25_0 : wc.cell? ⟨gb128, 0, none⟩ = some (.int .i64 ((rd_T37 l0 x10_1).f0)) := (blk_cell BK128.out 0).trans rfl
                              have hcz25_1 : wc.cell? ⟨gb128, 1, none⟩ = some (.int .i64 ((rd_T37 l0 x10_1).f1)) := (blk_cell BK128.out 1).trans rfl
                              have hcz25_2 : wc.cell? ⟨gb128, 2, none⟩ = some (.int .i64 ((rd_T37 l0 x10_1).f2)) := (blk_cell BK128.out 2).trans rfl
                              have hcz25_3 : wc.cell? ⟨gb128, 3, none⟩ = some (.int .i64 ((rd_T37 l0 x10_1).f3)) := (blk_cell BK128.out 3).trans rfl
                              have hcz25_4 : wc.cell? ⟨gb128, 4, none⟩ = some (.int .i64 ((rd_T37 l0 x10_1).f4)) := (blk_cell BK128.out 4).trans rfl
                              have hcz25_5 : wc.cell? ⟨gb128, 5, none⟩ = some (.int .i64 ((rd_T37 l0 x10_1).f5)) := (blk_cell BK128.out 5).trans rfl
                              have hcz25_6 : wc.cell? ⟨gb128, 6, none⟩ = some (.int .i64 ((rd_T37 l0 x10_1).f6)) := (blk_cell BK128.out 6).trans rfl
                              have hfz25_0 := blk_frozen BK128.out 0
                              have hfz25_1 := blk_frozen BK128.out 1
                              have hfz25_2 := blk_frozen BK128.out 2
                              have hfz25_3 := blk_frozen BK128.out 3
                              have hfz25_4 := blk_frozen BK128.out 4
                              have hfz25_5 := blk_frozen BK128.out 5
                              have hfz25_6 := blk_frozen BK128.out 6
                              go_wp2_with (first | ((with_reducible refine gate_callee (f := 7) rfl ?_); refine goesL_ (some 30) rfl rfl Try.func7 (by kernel_rfl) rfl #[.int .i64 ((rd_T37 l0 x10_1).f3), .int .i64 0, .int .i64 10000000] rfl (by (try simp only [List.map_toArray, List.map_cons, List.map_nil]); first | done | rfl | (simp only [List.length_drop, List.length_take]; rfl)) ?_; (with_reducible refine (chanceryref3_In.calls ((rd_T37 l0 x10_1).f3) 0 10000000 true _ A18.out).mono ?_); rintro e w' ⟨rfl, ⟨nd, rfl⟩⟩; refine ⟨_, rfl, ?_⟩) | ((with_reducible refine gate_callee (f := 7) rfl ?_); refine goesL_ (some 34) rfl rfl Try.func7 (by kernel_rfl) rfl #[.int .i64 ((rd_T37 l0 x10_1).f4), .int .i64 0, .int .i64 10000000] rfl (by (try simp only [List.map_toArray, List.map_cons, List.map_nil]); first | done | rfl | (simp only [List.length_drop, List.length_take]; rfl)) ?_; (with_reducible refine (chanceryref3_In.calls ((rd_T37 l0 x10_1).f4) 0 10000000 true _ A20.out).mono ?_); rintro e w' ⟨rfl, ⟨nd, rfl⟩⟩; refine ⟨_, rfl, ?_⟩) | ((with_reducible refine gate_callee (f := 7) rfl ?_); refine goesL_ (some 38) rfl rfl Try.func7 (by kernel_rfl) rfl #[.int .i64 ((rd_T37 l0 x10_1).f5), .int .i64 (-1048576), .int .i64 1048576] rfl (by (try simp only [List.map_toArray, List.map_cons, List.map_nil]); first | done | rfl | (simp only [List.length_drop, List.length_take]; rfl)) ?_; (with_reducible refine (chanceryref3_In.calls ((rd_T37 l0 x10_1).f5) (-1048576) 1048576 true _ A22.out).mono ?_); rintro e w' ⟨rfl, ⟨nd, rfl⟩⟩; refine ⟨_, rfl, ?_⟩) | ((with_reducible refine gate_callee (f := 7) rfl ?_); refine goesL_ (some 42) rfl rfl Try.func7 (by kernel_rfl) rfl #[.int .i64 ((rd_T37 l0 x10_1).f6), .int .i64 (-1048576), .int .i64 1048576] rfl (by (try simp only [List.map_toArray, List.map_cons, List.map_nil]); first | done | rfl | (simp only [List.length_drop, List.length_take]; rfl)) ?_; (with_reducible refine (chanceryref3_In.calls ((rd_T37 l0 x10_1).f6) (-1048576) 1048576 t135 _ A24.out).mono ?_); rintro e w' ⟨rfl, ⟨nd, rfl⟩⟩; refine ⟨_, rfl, ?_⟩))
                              go_meet
                              case rel => exact ⟨_, (!t135), (by first | rfl | (simp; done) | (simp [*]; done)), H', ⟨by have := HK1.out; have := HJ6.out; first | omega | exact Nat.le_refl _⟩, ⟨by (with_reducible repeat (first | refine blk_drewN ?_ _ | refine blk_drew ?_ | refine blk_alloc ?_ _)); exact BK128.out⟩, ⟨by repeat (first | (with_reducible first | exact HB.out | apply below_alloc | apply pw_below_drewN | apply below_drew1 | refine below_set ?_ GE128.out) | exact HB.out)⟩⟩
                            · replace c23 := Bool.eq_false_iff.mpr c23
                              subst c23
                              have H1 : (chancerylaw3_effectsError.j2 kj6 l0 (l0.length : Int) x10_1 (!false) ((rd_T37 l0 x10_1).f0) ((rd_T37 l0 x10_1).f1) ((rd_T37 l0 x10_1).f2) ((rd_T37 l0 x10_1).f3) ((rd_T37 l0 x10_1).f4) ((rd_T37 l0 x10_1).f5) ((rd_T37 l0 x10_1).f6)) = some r := by rw [if_neg (show ¬ (false = true) by decide)] at H; exact H
                              clear H
                              have H := H1
                              clear H1
                              have H' := Aside0.mk H
                              clear H
                              have hcz26_0 : wc.cell? ⟨gb128, 0, none⟩ = some (.int .i64 ((rd_T37 l0 x10_1).f0)) := (blk_cell BK128.out 0).trans rfl
                              have hcz26_1 : wc.cell? ⟨gb128, 1, none⟩ = some (.int .i64 ((rd_T37 l0 x10_1).f1)) := (blk_cell BK128.out 1).trans rfl
                              have hcz26_2 : wc.cell? ⟨gb128, 2, none⟩ = some (.int .i64 ((rd_T37 l0 x10_1).f2)) := (blk_cell BK128.out 2).trans rfl
                              have hcz26_3 : wc.cell? ⟨gb128, 3, none⟩ = some (.int .i64 ((rd_T37 l0 x10_1).f3)) := (blk_cell BK128.out 3).trans rfl
                              have hcz26_4 : wc.cell? ⟨gb128, 4, none⟩ = some (.int .i64 ((rd_T37 l0 x10_1).f4)) := (blk_cell BK128.out 4).trans rfl
                              have hcz26_5 : wc.cell? ⟨gb128, 5, none⟩ = some (.int .i64 ((rd_T37 l0 x10_1).f5)) := (blk_cell BK128.out 5).trans rfl
                              have hcz26_6 : wc.cell? ⟨gb128, 6, none⟩ = some (.int .i64 ((rd_T37 l0 x10_1).f6)) := (blk_cell BK128.out 6).trans rfl
                              have hfz26_0 := blk_frozen BK128.out 0
                              have hfz26_1 := blk_frozen BK128.out 1
                              have hfz26_2 := blk_frozen BK128.out 2
                              have hfz26_3 := blk_frozen BK128.out 3
                              have hfz26_4 := blk_frozen BK128.out 4
                              have hfz26_5 := blk_frozen BK128.out 5
                              have hfz26_6 := blk_frozen BK128.out 6
                              go_wp2_with (first | ((with_reducible refine gate_callee (f := 7) rfl ?_); refine goesL_ (some 30) rfl rfl Try.func7 (by kernel_rfl) rfl #[.int .i64 ((rd_T37 l0 x10_1).f3), .int .i64 0, .int .i64 10000000] rfl (by (try simp only [List.map_toArray, List.map_cons, List.map_nil]); first | done | rfl | (simp only [List.length_drop, List.length_take]; rfl)) ?_; (with_reducible refine (chanceryref3_In.calls ((rd_T37 l0 x10_1).f3) 0 10000000 true _ A18.out).mono ?_); rintro e w' ⟨rfl, ⟨nd, rfl⟩⟩; refine ⟨_, rfl, ?_⟩) | ((with_reducible refine gate_callee (f := 7) rfl ?_); refine goesL_ (some 34) rfl rfl Try.func7 (by kernel_rfl) rfl #[.int .i64 ((rd_T37 l0 x10_1).f4), .int .i64 0, .int .i64 10000000] rfl (by (try simp only [List.map_toArray, List.map_cons, List.map_nil]); first | done | rfl | (simp only [List.length_drop, List.length_take]; rfl)) ?_; (with_reducible refine (chanceryref3_In.calls ((rd_T37 l0 x10_1).f4) 0 10000000 true _ A20.out).mono ?_); rintro e w' ⟨rfl, ⟨nd, rfl⟩⟩; refine ⟨_, rfl, ?_⟩) | ((with_reducible refine gate_callee (f := 7) rfl ?_); refine goesL_ (some 38) rfl rfl Try.func7 (by kernel_rfl) rfl #[.int .i64 ((rd_T37 l0 x10_1).f5), .int .i64 (-1048576), .int .i64 1048576] rfl (by (try simp only [List.map_toArray, List.map_cons, List.map_nil]); first | done | rfl | (simp only [List.length_drop, List.length_take]; rfl)) ?_; (with_reducible refine (chanceryref3_In.calls ((rd_T37 l0 x10_1).f5) (-1048576) 1048576 false _ A22.out).mono ?_); rintro e w' ⟨rfl, ⟨nd, rfl⟩⟩; refine ⟨_, rfl, ?_⟩))
                              go_meet
                              case rel => exact ⟨_, (!false), (by first | rfl | (simp; done) | (simp [*]; done)), H', ⟨by have := HK1.out; have := HJ6.out; first | omega | exact Nat.le_refl _⟩, ⟨by (with_reducible repeat (first | refine blk_drewN ?_ _ | refine blk_drew ?_ | refine blk_alloc ?_ _)); exact BK128.out⟩, ⟨by repeat (first | (with_reducible first | exact HB.out | apply below_alloc | apply pw_below_drewN | apply below_drew1 | refine below_set ?_ GE128.out) | exact HB.out)⟩⟩
                          · replace c21 := Bool.eq_false_iff.mpr c21
                            subst c21
                            have H1 : (chancerylaw3_effectsError.j2 kj6 l0 (l0.length : Int) x10_1 (!false) ((rd_T37 l0 x10_1).f0) ((rd_T37 l0 x10_1).f1) ((rd_T37 l0 x10_1).f2) ((rd_T37 l0 x10_1).f3) ((rd_T37 l0 x10_1).f4) ((rd_T37 l0 x10_1).f5) ((rd_T37 l0 x10_1).f6)) = some r := by rw [if_neg (show ¬ (false = true) by decide)] at H; exact H
                            clear H
                            have H := H1
                            clear H1
                            have H' := Aside0.mk H
                            clear H
                            have hcz27_0 : wc.cell? ⟨gb128, 0, none⟩ = some (.int .i64 ((rd_T37 l0 x10_1).f0)) := (blk_cell BK128.out 0).trans rfl
                            have hcz27_1 : wc.cell? ⟨gb128, 1, none⟩ = some (.int .i64 ((rd_T37 l0 x10_1).f1)) := (blk_cell BK128.out 1).trans rfl
                            have hcz27_2 : wc.cell? ⟨gb128, 2, none⟩ = some (.int .i64 ((rd_T37 l0 x10_1).f2)) := (blk_cell BK128.out 2).trans rfl
                            have hcz27_3 : wc.cell? ⟨gb128, 3, none⟩ = some (.int .i64 ((rd_T37 l0 x10_1).f3)) := (blk_cell BK128.out 3).trans rfl
                            have hcz27_4 : wc.cell? ⟨gb128, 4, none⟩ = some (.int .i64 ((rd_T37 l0 x10_1).f4)) := (blk_cell BK128.out 4).trans rfl
                            have hcz27_5 : wc.cell? ⟨gb128, 5, none⟩ = some (.int .i64 ((rd_T37 l0 x10_1).f5)) := (blk_cell BK128.out 5).trans rfl
                            have hcz27_6 : wc.cell? ⟨gb128, 6, none⟩ = some (.int .i64 ((rd_T37 l0 x10_1).f6)) := (blk_cell BK128.out 6).trans rfl
                            have hfz27_0 := blk_frozen BK128.out 0
                            have hfz27_1 := blk_frozen BK128.out 1
                            have hfz27_2 := blk_frozen BK128.out 2
                            have hfz27_3 := blk_frozen BK128.out 3
                            have hfz27_4 := blk_frozen BK128.out 4
                            have hfz27_5 := blk_frozen BK128.out 5
                            have hfz27_6 := blk_frozen BK128.out 6
                            go_wp2_with (first | ((with_reducible refine gate_callee (f := 7) rfl ?_); refine goesL_ (some 30) rfl rfl Try.func7 (by kernel_rfl) rfl #[.int .i64 ((rd_T37 l0 x10_1).f3), .int .i64 0, .int .i64 10000000] rfl (by (try simp only [List.map_toArray, List.map_cons, List.map_nil]); first | done | rfl | (simp only [List.length_drop, List.length_take]; rfl)) ?_; (with_reducible refine (chanceryref3_In.calls ((rd_T37 l0 x10_1).f3) 0 10000000 true _ A18.out).mono ?_); rintro e w' ⟨rfl, ⟨nd, rfl⟩⟩; refine ⟨_, rfl, ?_⟩) | ((with_reducible refine gate_callee (f := 7) rfl ?_); refine goesL_ (some 34) rfl rfl Try.func7 (by kernel_rfl) rfl #[.int .i64 ((rd_T37 l0 x10_1).f4), .int .i64 0, .int .i64 10000000] rfl (by (try simp only [List.map_toArray, List.map_cons, List.map_nil]); first | done | rfl | (simp only [List.length_drop, List.length_take]; rfl)) ?_; (with_reducible refine (chanceryref3_In.calls ((rd_T37 l0 x10_1).f4) 0 10000000 false _ A20.out).mono ?_); rintro e w' ⟨rfl, ⟨nd, rfl⟩⟩; refine ⟨_, rfl, ?_⟩))
                            go_meet
                            case rel => exact ⟨_, (!false), (by first | rfl | (simp; done) | (simp [*]; done)), H', ⟨by have := HK1.out; have := HJ6.out; first | omega | exact Nat.le_refl _⟩, ⟨by (with_reducible repeat (first | refine blk_drewN ?_ _ | refine blk_drew ?_ | refine blk_alloc ?_ _)); exact BK128.out⟩, ⟨by repeat (first | (with_reducible first | exact HB.out | apply below_alloc | apply pw_below_drewN | apply below_drew1 | refine below_set ?_ GE128.out) | exact HB.out)⟩⟩
                        · replace c19 := Bool.eq_false_iff.mpr c19
                          subst c19
                          have H1 : (chancerylaw3_effectsError.j2 kj6 l0 (l0.length : Int) x10_1 (!false) ((rd_T37 l0 x10_1).f0) ((rd_T37 l0 x10_1).f1) ((rd_T37 l0 x10_1).f2) ((rd_T37 l0 x10_1).f3) ((rd_T37 l0 x10_1).f4) ((rd_T37 l0 x10_1).f5) ((rd_T37 l0 x10_1).f6)) = some r := by rw [if_neg (show ¬ (false = true) by decide)] at H; exact H
                          clear H
                          have H := H1
                          clear H1
                          have H' := Aside0.mk H
                          clear H
                          have hcz28_0 : wc.cell? ⟨gb128, 0, none⟩ = some (.int .i64 ((rd_T37 l0 x10_1).f0)) := (blk_cell BK128.out 0).trans rfl
                          have hcz28_1 : wc.cell? ⟨gb128, 1, none⟩ = some (.int .i64 ((rd_T37 l0 x10_1).f1)) := (blk_cell BK128.out 1).trans rfl
                          have hcz28_2 : wc.cell? ⟨gb128, 2, none⟩ = some (.int .i64 ((rd_T37 l0 x10_1).f2)) := (blk_cell BK128.out 2).trans rfl
                          have hcz28_3 : wc.cell? ⟨gb128, 3, none⟩ = some (.int .i64 ((rd_T37 l0 x10_1).f3)) := (blk_cell BK128.out 3).trans rfl
                          have hcz28_4 : wc.cell? ⟨gb128, 4, none⟩ = some (.int .i64 ((rd_T37 l0 x10_1).f4)) := (blk_cell BK128.out 4).trans rfl
                          have hcz28_5 : wc.cell? ⟨gb128, 5, none⟩ = some (.int .i64 ((rd_T37 l0 x10_1).f5)) := (blk_cell BK128.out 5).trans rfl
                          have hcz28_6 : wc.cell? ⟨gb128, 6, none⟩ = some (.int .i64 ((rd_T37 l0 x10_1).f6)) := (blk_cell BK128.out 6).trans rfl
                          have hfz28_0 := blk_frozen BK128.out 0
                          have hfz28_1 := blk_frozen BK128.out 1
                          have hfz28_2 := blk_frozen BK128.out 2
                          have hfz28_3 := blk_frozen BK128.out 3
                          have hfz28_4 := blk_frozen BK128.out 4
                          have hfz28_5 := blk_frozen BK128.out 5
                          have hfz28_6 := blk_frozen BK128.out 6
                          go_wp2_with (first | ((with_reducible refine gate_callee (f := 7) rfl ?_); refine goesL_ (some 30) rfl rfl Try.func7 (by kernel_rfl) rfl #[.int .i64 ((rd_T37 l0 x10_1).f3), .int .i64 0, .int .i64 10000000] rfl (by (try simp only [List.map_toArray, List.map_cons, List.map_nil]); first | done | rfl | (simp only [List.length_drop, List.length_take]; rfl)) ?_; (with_reducible refine (chanceryref3_In.calls ((rd_T37 l0 x10_1).f3) 0 10000000 false _ A18.out).mono ?_); rintro e w' ⟨rfl, ⟨nd, rfl⟩⟩; refine ⟨_, rfl, ?_⟩))
                          go_meet
                          case rel => exact ⟨_, (!false), (by first | rfl | (simp; done) | (simp [*]; done)), H', ⟨by have := HK1.out; have := HJ6.out; first | omega | exact Nat.le_refl _⟩, ⟨by (with_reducible repeat (first | refine blk_drewN ?_ _ | refine blk_drew ?_ | refine blk_alloc ?_ _)); exact BK128.out⟩, ⟨by repeat (first | (with_reducible first | exact HB.out | apply below_alloc | apply pw_below_drewN | apply below_drew1 | refine below_set ?_ GE128.out) | exact HB.out)⟩⟩
                      · replace c17 := Bool.eq_false_iff.mpr c17
                        subst c17
                        have H1 : (chancerylaw3_effectsError.j2 kj6 l0 (l0.length : Int) x10_1 (!false) ((rd_T37 l0 x10_1).f0) ((rd_T37 l0 x10_1).f1) ((rd_T37 l0 x10_1).f2) ((rd_T37 l0 x10_1).f3) ((rd_T37 l0 x10_1).f4) ((rd_T37 l0 x10_1).f5) ((rd_T37 l0 x10_1).f6)) = some r := by rw [if_neg (show ¬ (false = true) by decide)] at H; exact H
                        clear H
                        have H := H1
                        clear H1
                        have H' := Aside0.mk H
                        clear H
                        go_wp2
                        go_meet
                        case rel => exact ⟨_, (!false), (by first | rfl | (simp; done) | (simp [*]; done)), H', ⟨by have := HK1.out; have := HJ6.out; first | omega | exact Nat.le_refl _⟩, ⟨by (with_reducible repeat (first | refine blk_drewN ?_ _ | refine blk_drew ?_ | refine blk_alloc ?_ _)); exact BK128.out⟩, ⟨by repeat (first | (with_reducible first | exact HB.out | apply below_alloc | apply pw_below_drewN | apply below_drew1 | refine below_set ?_ GE128.out) | exact HB.out)⟩⟩
                    case rest =>
                      clear HC15
                      try clear c1
                      try clear p1
                      try clear q1
                      try clear hx1
                      try clear c2
                      try clear c2b0
                      try clear c2b1
                      try clear p2
                      try clear c3
                      try clear c3b0
                      try clear c4
                      try clear c4b0
                      try clear c5
                      try clear c5b0
                      try clear c6
                      try clear c7
                      try clear c10
                      try clear p12
                      try clear q12
                      try clear hx12
                      try clear c13
                      try clear c17
                      try clear c19
                      try clear c21
                      try clear c23
                      try clear hcz12_0
                      try clear hcz12_1
                      try clear hcz12_2
                      try clear hcz12_3
                      try clear hcz12_4
                      try clear hcz12_5
                      try clear hcz12_6
                      try clear hcz16_0
                      try clear hcz16_1
                      try clear hcz16_2
                      try clear hcz16_3
                      try clear hcz16_4
                      try clear hcz16_5
                      try clear hcz16_6
                      try clear hcz25_0
                      try clear hcz25_1
                      try clear hcz25_2
                      try clear hcz25_3
                      try clear hcz25_4
                      try clear hcz25_5
                      try clear hcz25_6
                      try clear hcz26_0
                      try clear hcz26_1
                      try clear hcz26_2
                      try clear hcz26_3
                      try clear hcz26_4
                      try clear hcz26_5
                      try clear hcz26_6
                      try clear hcz27_0
                      try clear hcz27_1
                      try clear hcz27_2
                      try clear hcz27_3
                      try clear hcz27_4
                      try clear hcz27_5
                      try clear hcz27_6
                      try clear hcz28_0
                      try clear hcz28_1
                      try clear hcz28_2
                      try clear hcz28_3
                      try clear hcz28_4
                      try clear hcz28_5
                      try clear hcz28_6
                      try clear hcz9_0
                      try clear hcz9_1
                      try clear hcz9_2
                      try clear hcz9_3
                      try clear hcz9_4
                      try clear hcz9_5
                      try clear hcz9_6
                      try clear hfz12_0
                      try clear hfz12_1
                      try clear hfz12_2
                      try clear hfz12_3
                      try clear hfz12_4
                      try clear hfz12_5
                      try clear hfz12_6
                      try clear hfz16_0
                      try clear hfz16_1
                      try clear hfz16_2
                      try clear hfz16_3
                      try clear hfz16_4
                      try clear hfz16_5
                      try clear hfz16_6
                      try clear hfz25_0
                      try clear hfz25_1
                      try clear hfz25_2
                      try clear hfz25_3
                      try clear hfz25_4
                      try clear hfz25_5
                      try clear hfz25_6
                      try clear hfz26_0
                      try clear hfz26_1
                      try clear hfz26_2
                      try clear hfz26_3
                      try clear hfz26_4
                      try clear hfz26_5
                      try clear hfz26_6
                      try clear hfz27_0
                      try clear hfz27_1
                      try clear hfz27_2
                      try clear hfz27_3
                      try clear hfz27_4
                      try clear hfz27_5
                      try clear hfz27_6
                      try clear hfz28_0
                      try clear hfz28_1
                      try clear hfz28_2
                      try clear hfz28_3
                      try clear hfz28_4
                      try clear hfz28_5
                      try clear hfz28_6
                      try clear hfz9_0
                      try clear hfz9_1
                      try clear hfz9_2
                      try clear hfz9_3
                      try clear hfz9_4
                      try clear hfz9_5
                      try clear hfz9_6
                      try clear hx127_0
                      try clear hx127_1
                      try clear hx127_2
                      try clear hx127_3
                      try clear hx127_4
                      try clear hx127_5
                      try clear hx127_6
                      try clear p1
                      try clear p12
                      try clear p127
                      try clear p2
                      try clear q1
                      try clear q12
                      try clear q127
                      obtain ⟨kq, x23_14, rfl, HA, HJ14, BK128, HB⟩ := hcut
                      cases kq with
                      | zero => exact absurd HA.out (by simp [chancerylaw3_effectsError.j2])
                      | succ kj14 =>
                        have H := HA.out
                        clear HA
                        simp only [chancerylaw3_effectsError.j2] at H
                        by_cases c29 : x23_14 = true
                        · subst c29
                          have H1 : (some 2) = some r := by rw [if_pos rfl] at H; exact H
                          clear H
                          have H := H1
                          clear H1
                          obtain rfl := Option.some.inj H
                          go_wp2
                          go_ret
                          exact ⟨by first | rfl | (simp [errW_none, errW_some] <;> rfl) | (simp [*, errW_none, errW_some] <;> rfl), by repeat (first | (with_reducible first | exact HB.out | apply below_alloc | apply pw_below_drewN | apply below_drew1 | refine below_set ?_ GE128.out) | exact HB.out)⟩
                        · replace c29 := Bool.eq_false_iff.mpr c29
                          subst c29
                          have H1 : (if ((rd_T37 l0 x10_1).f1) = 2 then (chancerylaw3_effectsError.l0 kj14 l0 (l0.length : Int) (wrap64 (x10_1 + 1))) else (if ((rd_T37 l0 x10_1).f5) = 0 then (if ((rd_T37 l0 x10_1).f6) = 0 then (chancerylaw3_effectsError.l0 kj14 l0 (l0.length : Int) (wrap64 (x10_1 + 1))) else (some 4)) else (some 4))) = some r := by rw [if_neg (show ¬ (false = true) by decide)] at H; exact H
                          clear H
                          have H := H1
                          clear H1
                          by_cases c30 : ((rd_T37 l0 x10_1).f1) = 2
                          · rw [if_pos c30] at H
                            have c30b0 : (((rd_T37 l0 x10_1).f1) == 2) = true := beq_iff_eq.mpr c30
                            have c30b1 : (((rd_T37 l0 x10_1).f1) != 2) = false := bne_eq_false_iff_eq.mpr c30
                            clear c30
                            have H' := Aside0.mk H
                            clear H
                            have hcz31_0 : wc.cell? ⟨gb128, 0, none⟩ = some (.int .i64 ((rd_T37 l0 x10_1).f0)) := (blk_cell BK128.out 0).trans rfl
                            have hcz31_1 : wc.cell? ⟨gb128, 1, none⟩ = some (.int .i64 ((rd_T37 l0 x10_1).f1)) := (blk_cell BK128.out 1).trans rfl
                            have hcz31_2 : wc.cell? ⟨gb128, 2, none⟩ = some (.int .i64 ((rd_T37 l0 x10_1).f2)) := (blk_cell BK128.out 2).trans rfl
                            have hcz31_3 : wc.cell? ⟨gb128, 3, none⟩ = some (.int .i64 ((rd_T37 l0 x10_1).f3)) := (blk_cell BK128.out 3).trans rfl
                            have hcz31_4 : wc.cell? ⟨gb128, 4, none⟩ = some (.int .i64 ((rd_T37 l0 x10_1).f4)) := (blk_cell BK128.out 4).trans rfl
                            have hcz31_5 : wc.cell? ⟨gb128, 5, none⟩ = some (.int .i64 ((rd_T37 l0 x10_1).f5)) := (blk_cell BK128.out 5).trans rfl
                            have hcz31_6 : wc.cell? ⟨gb128, 6, none⟩ = some (.int .i64 ((rd_T37 l0 x10_1).f6)) := (blk_cell BK128.out 6).trans rfl
                            have hfz31_0 := blk_frozen BK128.out 0
                            have hfz31_1 := blk_frozen BK128.out 1
                            have hfz31_2 := blk_frozen BK128.out 2
                            have hfz31_3 := blk_frozen BK128.out 3
                            have hfz31_4 := blk_frozen BK128.out 4
                            have hfz31_5 := blk_frozen BK128.out 5
                            have hfz31_6 := blk_frozen BK128.out 6
                            go_wp2
                            go_roundg kj14
                            case measure => have := HK1.out; have := HJ6.out; have := HJ14.out; omega
                            case rel => exact ⟨(wrap64 (x10_1 + 1)), (by first | rfl | (simp; done) | (simp [*]; done)), H', ⟨by have := HK1.out; have := HJ6.out; have := HJ14.out; omega⟩, ⟨by repeat (first | (with_reducible first | exact HB.out | apply below_alloc | apply pw_below_drewN | apply below_drew1 | refine below_set ?_ GE128.out) | exact HB.out)⟩⟩
                          · rw [if_neg c30] at H
                            have c30b0 : (((rd_T37 l0 x10_1).f1) == 2) = false := beq_eq_false_iff_ne.mpr c30
                            have c30b1 : (((rd_T37 l0 x10_1).f1) != 2) = true := bne_iff_ne.mpr c30
                            by_cases c32 : ((rd_T37 l0 x10_1).f5) = 0
                            · rw [if_pos c32] at H
                              have c32b0 : (((rd_T37 l0 x10_1).f5) == 0) = true := beq_iff_eq.mpr c32
                              have c32b1 : (((rd_T37 l0 x10_1).f5) != 0) = false := bne_eq_false_iff_eq.mpr c32
                              clear c32
                              by_cases c33 : ((rd_T37 l0 x10_1).f6) = 0
                              · rw [if_pos c33] at H
                                have c33b0 : (((rd_T37 l0 x10_1).f6) == 0) = true := beq_iff_eq.mpr c33
                                have c33b1 : (((rd_T37 l0 x10_1).f6) != 0) = false := bne_eq_false_iff_eq.mpr c33
                                clear c33
                                have H' := Aside0.mk H
                                clear H
                                have hcz34_0 : wc.cell? ⟨gb128, 0, none⟩ = some (.int .i64 ((rd_T37 l0 x10_1).f0)) := (blk_cell BK128.out 0).trans rfl
                                have hcz34_1 : wc.cell? ⟨gb128, 1, none⟩ = some (.int .i64 ((rd_T37 l0 x10_1).f1)) := (blk_cell BK128.out 1).trans rfl
                                have hcz34_2 : wc.cell? ⟨gb128, 2, none⟩ = some (.int .i64 ((rd_T37 l0 x10_1).f2)) := (blk_cell BK128.out 2).trans rfl
                                have hcz34_3 : wc.cell? ⟨gb128, 3, none⟩ = some (.int .i64 ((rd_T37 l0 x10_1).f3)) := (blk_cell BK128.out 3).trans rfl
                                have hcz34_4 : wc.cell? ⟨gb128, 4, none⟩ = some (.int .i64 ((rd_T37 l0 x10_1).f4)) := (blk_cell BK128.out 4).trans rfl
                                have hcz34_5 : wc.cell? ⟨gb128, 5, none⟩ = some (.int .i64 ((rd_T37 l0 x10_1).f5)) := (blk_cell BK128.out 5).trans rfl
                                have hcz34_6 : wc.cell? ⟨gb128, 6, none⟩ = some (.int .i64 ((rd_T37 l0 x10_1).f6)) := (blk_cell BK128.out 6).trans rfl
                                have hfz34_0 := blk_frozen BK128.out 0
                                have hfz34_1 := blk_frozen BK128.out 1
                                have hfz34_2 := blk_frozen BK128.out 2
                                have hfz34_3 := blk_frozen BK128.out 3
                                have hfz34_4 := blk_frozen BK128.out 4
                                have hfz34_5 := blk_frozen BK128.out 5
                                have hfz34_6 := blk_frozen BK128.out 6
                                go_wp2
                                go_roundg kj14
                                case measure => have := HK1.out; have := HJ6.out; have := HJ14.out; omega
                                case rel => exact ⟨(wrap64 (x10_1 + 1)), (by first | rfl | (simp; done) | (simp [*]; done)), H', ⟨by have := HK1.out; have := HJ6.out; have := HJ14.out; omega⟩, ⟨by repeat (first | (with_reducible first | exact HB.out | apply below_alloc | apply pw_below_drewN | apply below_drew1 | refine below_set ?_ GE128.out) | exact HB.out)⟩⟩
                              · rw [if_neg c33] at H
                                have c33b0 : (((rd_T37 l0 x10_1).f6) == 0) = false := beq_eq_false_iff_ne.mpr c33
                                have c33b1 : (((rd_T37 l0 x10_1).f6) != 0) = true := bne_iff_ne.mpr c33
                                obtain rfl := Option.some.inj H
                                have hcz35_0 : wc.cell? ⟨gb128, 0, none⟩ = some (.int .i64 ((rd_T37 l0 x10_1).f0)) := (blk_cell BK128.out 0).trans rfl
                                have hcz35_1 : wc.cell? ⟨gb128, 1, none⟩ = some (.int .i64 ((rd_T37 l0 x10_1).f1)) := (blk_cell BK128.out 1).trans rfl
                                have hcz35_2 : wc.cell? ⟨gb128, 2, none⟩ = some (.int .i64 ((rd_T37 l0 x10_1).f2)) := (blk_cell BK128.out 2).trans rfl
                                have hcz35_3 : wc.cell? ⟨gb128, 3, none⟩ = some (.int .i64 ((rd_T37 l0 x10_1).f3)) := (blk_cell BK128.out 3).trans rfl
                                have hcz35_4 : wc.cell? ⟨gb128, 4, none⟩ = some (.int .i64 ((rd_T37 l0 x10_1).f4)) := (blk_cell BK128.out 4).trans rfl
                                have hcz35_5 : wc.cell? ⟨gb128, 5, none⟩ = some (.int .i64 ((rd_T37 l0 x10_1).f5)) := (blk_cell BK128.out 5).trans rfl
                                have hcz35_6 : wc.cell? ⟨gb128, 6, none⟩ = some (.int .i64 ((rd_T37 l0 x10_1).f6)) := (blk_cell BK128.out 6).trans rfl
                                have hfz35_0 := blk_frozen BK128.out 0
                                have hfz35_1 := blk_frozen BK128.out 1
                                have hfz35_2 := blk_frozen BK128.out 2
                                have hfz35_3 := blk_frozen BK128.out 3
                                have hfz35_4 := blk_frozen BK128.out 4
                                have hfz35_5 := blk_frozen BK128.out 5
                                have hfz35_6 := blk_frozen BK128.out 6
                                go_wp2
                                go_ret
                                exact ⟨by first | rfl | (simp [errW_none, errW_some] <;> rfl) | (simp [*, errW_none, errW_some] <;> rfl), by repeat (first | (with_reducible first | exact HB.out | apply below_alloc | apply pw_below_drewN | apply below_drew1 | refine below_set ?_ GE128.out) | exact HB.out)⟩
                            · rw [if_neg c32] at H
                              have c32b0 : (((rd_T37 l0 x10_1).f5) == 0) = false := beq_eq_false_iff_ne.mpr c32
                              have c32b1 : (((rd_T37 l0 x10_1).f5) != 0) = true := bne_iff_ne.mpr c32
                              obtain rfl := Option.some.inj H
                              have hcz36_0 : wc.cell? ⟨gb128, 0, none⟩ = some (.int .i64 ((rd_T37 l0 x10_1).f0)) := (blk_cell BK128.out 0).trans rfl
                              have hcz36_1 : wc.cell? ⟨gb128, 1, none⟩ = some (.int .i64 ((rd_T37 l0 x10_1).f1)) := (blk_cell BK128.out 1).trans rfl
                              have hcz36_2 : wc.cell? ⟨gb128, 2, none⟩ = some (.int .i64 ((rd_T37 l0 x10_1).f2)) := (blk_cell BK128.out 2).trans rfl
                              have hcz36_3 : wc.cell? ⟨gb128, 3, none⟩ = some (.int .i64 ((rd_T37 l0 x10_1).f3)) := (blk_cell BK128.out 3).trans rfl
                              have hcz36_4 : wc.cell? ⟨gb128, 4, none⟩ = some (.int .i64 ((rd_T37 l0 x10_1).f4)) := (blk_cell BK128.out 4).trans rfl
                              have hcz36_5 : wc.cell? ⟨gb128, 5, none⟩ = some (.int .i64 ((rd_T37 l0 x10_1).f5)) := (blk_cell BK128.out 5).trans rfl
                              have hcz36_6 : wc.cell? ⟨gb128, 6, none⟩ = some (.int .i64 ((rd_T37 l0 x10_1).f6)) := (blk_cell BK128.out 6).trans rfl
                              have hfz36_0 := blk_frozen BK128.out 0
                              have hfz36_1 := blk_frozen BK128.out 1
                              have hfz36_2 := blk_frozen BK128.out 2
                              have hfz36_3 := blk_frozen BK128.out 3
                              have hfz36_4 := blk_frozen BK128.out 4
                              have hfz36_5 := blk_frozen BK128.out 5
                              have hfz36_6 := blk_frozen BK128.out 6
                              go_wp2
                              go_ret
                              exact ⟨by first | rfl | (simp [errW_none, errW_some] <;> rfl) | (simp [*, errW_none, errW_some] <;> rfl), by repeat (first | (with_reducible first | exact HB.out | apply below_alloc | apply pw_below_drewN | apply below_drew1 | refine below_set ?_ GE128.out) | exact HB.out)⟩
            · rw [if_neg c5] at H
              exact absurd H (by simp)
          · rw [if_neg c4] at H
            exact absurd H (by simp)
        · rw [if_neg c3] at H
          have c3b0 : decide (x10_1 < (l0.length : Int)) = false := decide_eq_false c3
          clear c3
          obtain rfl := Option.some.inj H
          go_wp2
          go_ret
          exact ⟨by first | rfl | (simp [errW_none, errW_some] <;> rfl) | (simp [*, errW_none, errW_some] <;> rfl), by repeat (first | (with_reducible first | exact HB.out | apply below_alloc | apply pw_below_drewN | apply below_drew1) | exact HB.out)⟩

end Go.Proofs.Ytmjdeejccmcpnaa.Q
