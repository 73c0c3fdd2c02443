import Derived.Test.YtmjdeejccmcpnaaL1
import Derived.StillTailTactics
namespace Go.Proofs.Ytmjdeejccmcpnaa.Q
open Go.RowKit Go.Proofs.YtmjdeejccmcpnaaW.PrintWords Go.Proofs.YtmjdeejccmcpnaaW.PrintLast Go.Proofs.YtmjdeejccmcpnaaW.PrintMore Go.Sort
attribute [local go_sem] max2_int min2_int max_two min_two max_three min_three max_four min_four
set_option linter.unusedVariables false
set_option linter.unusedSimpArgs false
theorem idxI_or (out : List S33) (it : Int) : (findI out it < out.length ∧ (findI out it : Int) = idxI out it) ∨ (¬ findI out it < out.length ∧ -1 = idxI out it) := by
  unfold idxI
  by_cases h : findI out it < out.length
  · exact .inl ⟨h, (if_pos h).symm⟩
  · exact .inr ⟨h, (if_neg h).symm⟩
theorem part_calls (n p : Int) (w : World) : Calls Try.prog 17 #[.int .i64 n, .int .i64 p] w fun e w' => e = .returned (.int .i64 (part_ n p)) ∧ w' = w := by
  go_enter Try.func17, Try.ntmps17
  go_wp2
  go_ret
  exact ⟨rfl, rfl⟩
/-- what is sorted -/
def StateR (w0 : World) (out : List S33) (e : Ending) (w' : World) : Prop :=
  ∃ A c s, e = .returned (.tuple #[.slice A s.length c, .int .i64 0]) ∧ s.Perm out ∧ s.Pairwise (fun a b => a.f0 ≤ b.f0) ∧ s.length ≤ c ∧ Kd.C k33 w' A s.length s ∧ Below w0.heap.size w0 w'
set_option maxHeartbeats 4000000 in
set_option maxRecDepth 100000 in
theorem state_ok (A0 : Option Addr) (c0 : Nat) (l : List S37) (click at_ : Int) (w : World) (hr0 : Kd.C k37 w A0 l.length l) (hc0 : l.length ≤ c0) (hl : l.length ≤ 30)
    (kC kT kP : Nat) (hC : timeline_Check.f kC l = some 0) (ts : List S45) (hT : timeline_times.f kT l = some ts) (hts : ts.length = l.length) (pr : Nat → Int)
    (hP : ∀ k, k < l.length → timeline_progress.f kP (rd_T45 ts (k : Int)).f0 (rd_T45 ts (k : Int)).f1 (rd_T45 ts (k : Int)).f2 click at_ = some (pr k))
    (hI : ∀ s ∈ (stTo l pr l.length).1, 1 ≤ s.f0 ∧ s.f0 ≤ 1073741824)
    (h1 : 0 ≤ click) (h2 : click ≤ 200) (h3 : 0 ≤ at_) (h4 : at_ ≤ 10000000) :
    Calls Try.prog 5 #[.slice A0 l.length c0, .int .i64 click, .int .i64 at_] w fun e w' => StateR w (stTo l pr l.length).1 e w' := by
  have HR0 := Aside0.mk hr0
  have HC0 := Aside0.mk hc0
  have HCk := Aside0.mk hC
  have HT := Aside0.mk hT
  have HTS := Aside0.mk hts
  have HP := Aside0.mk hP
  clear hr0 hc0 hC hT hts hP
  have e1 : decide (click < 0) = false := by simp; omega
  have e2 : decide (200 < click) = false := by simp; omega
  have e3 : decide (at_ < 0) = false := by simp; omega
  have e4 : decide (10000000 < at_) = false := by simp; omega
  clear h1 h2 h3 h4
  go_enter Try.func5, Try.ntmps5
  go_wp2_with (first
    | (go_at_call 12; refine (timeline_Check.calls kC A0 c0 l 0 _ HR0.out HC0.out HCk.out).mono ?_; rintro e w1 ⟨rfl, hb1⟩; have HB1 := Aside0.mk hb1; clear hb1)
    | (go_at_call 13; refine (timeline_times.calls kT A0 c0 l ts _ (Kd.C_below HR0.out HB1.out) HC0.out HT.out).mono ?_; rintro e w2 ⟨v11, rfl, hR, hb2⟩; obtain ⟨A11, c11, e11, _, _⟩ := Kd.R_reads hR; subst e11; have HBU := Aside0.mk (Bun.mk (out := []) (known := []) (Kd.R_nil _ _ _ _ _) (Kd.R_nil _ _ _ _ _) (Kd.R_lower hR HB1.out.size) (HB1.out.trans (hb2.mono HB1.out.size))); clear hR hb2))
  clear e1 e2 e3 e4 HB1
  go_loopg [9, 10, 39] l.length (fun gk v9 v10 v39 wr => ∃ k : Nat, k ≤ l.length ∧ l.length - k ≤ gk ∧ v39 = .int .i64 (k : Int) ∧ Aside0 (Bun w wr v9 v10 (.slice A11 ts.length c11) (stTo l pr k).1 (stTo l pr k).2 ts))
  case atStart => exact ⟨0, by omega, by omega, rfl, HBU⟩
  case round =>
    clear HBU
    obtain ⟨k, hk, hgk, rfl, HBU⟩ := hrel
    obtain ⟨out, hout⟩ : ∃ o, (stTo l pr k).1 = o := ⟨_, rfl⟩
    obtain ⟨known, hknown⟩ : ∃ o, (stTo l pr k).2 = o := ⟨_, rfl⟩
    rw [hout, hknown] at HBU
    have HST := Aside0.mk (show stTo l pr k = (out, known) by rw [← hout, ← hknown])
    have hlen := stTo_len l pr k
    rw [hout, hknown] at hlen
    obtain ⟨hl1, hl2⟩ := hlen
    have HL1 := Aside0.mk hl1
    clear hout hknown hl1
    by_cases hlt : k < l.length
    · obtain ⟨ad, ead, hx0, hx1, hx2, hx3, hx4, hx5, hx6⟩ := at_T37 (Kd.C_below HR0.out HBU.out.b) (k : Int) (by omega) (by omega)
      subst ead
      simp only [Int.toNat_natCast] at hx0 hx1 hx2 hx3 hx4 hx5 hx6
      obtain ⟨x, hx⟩ : ∃ x, rd_T37 l (k : Int) = x := ⟨_, rfl⟩
      rw [hx] at hx0 hx1 hx2 hx3 hx4 hx5 hx6
      have HX := Aside0.mk hx
      clear hx
      obtain ⟨A9, c9, e9, hc9, hC9⟩ := Kd.R_reads HBU.out.o
      subst e9
      have HC9 := Aside0.mk hc9
      have HR9 := Aside0.mk hC9
      clear hc9 hC9
      go_wp2_with fail
      refine (idx_calls A9 c9 out wr.heap.size x.f0 _ (Kd.C_below HR9.out (below_alloc (Below.refl _ _) _)) HC9.out ((blk_cell (blk_new _ _) 0).trans rfl)).mono ?_
      rintro e w3 ⟨rfl, hb3⟩
      have HBU3 := Aside0.mk ((HBU.out.alloc _).below hb3)
      have HBX3 := Aside0.mk (show BX w3 wr.heap.size x from blk_below (blk_new _ _) hb3)
      clear hb3 hx0 hx1 hx2 hx3 hx4 hx5 hx6 HBU HR9 HC9
      obtain ⟨gx, hgx⟩ : ∃ gx, wr.heap.size = gx := ⟨_, rfl⟩
      rw [hgx] at HBX3
      simp only [hgx]
      clear hgx
      have x0 := HBX3.out.cells.1
      have HC48 := Aside0.mk (idxI_or out x.f0)
      obtain ⟨q, hq⟩ : ∃ q, idxI out x.f0 = q := ⟨_, rfl⟩
      rw [hq] at HC48 ⊢
      clear hq
      go_upto_if 48 with fail
      go_cut [9, 10, 14] (fun v9 v10 v14 wc => ∃ (j : Nat) (o : List S33) (n : List Bool) (g9 d9 g10 d10 : Nat), v9 = .slice (some ⟨g9, 0, none⟩) o.length d9 ∧ v10 = .slice (some ⟨g10, 0, none⟩) o.length d10 ∧ v14 = .int .i64 (j : Int) ∧ Aside0 (j < o.length ∧ n.length = o.length) ∧ Aside0 (∀ p, stStep (out, known) x p = (roundO o n x p j, roundK n x j)) ∧ Aside0 (Bun w wc (.slice (some ⟨g9, 0, none⟩) o.length d9) (.slice (some ⟨g10, 0, none⟩) o.length d10) (.slice A11 ts.length c11) o n ts) ∧ Aside0 (BX wc gx x))
      case first =>
        rcases HC48.out with ⟨hf, hq⟩ | ⟨hf, hq⟩
        · subst hq
          clear HC48
          obtain ⟨j, hj⟩ : ∃ j, findI out x.f0 = j := ⟨_, rfl⟩
          rw [hj] at hf ⊢
          have HJ := Aside0.mk hj
          clear hj
          obtain ⟨g9, d9, e9, _, _⟩ := Kd.R_form HBU3.out.o (by omega)
          injection e9 with e91 _ e93
          subst e91 e93
          obtain ⟨g10, d10, e10, _, _⟩ := Kd.R_form HBU3.out.n (by rw [HL1.out]; omega)
          subst e10
          rw [HL1.out] at HBU3
          rw [HL1.out]
          go_wp2_with fail
          go_meet
          case rel => exact ⟨j, out, known, g9, c9, g10, d10, rfl, rfl, rfl, ⟨hf, HL1.out⟩, ⟨fun p => by show (if findI out x.f0 < out.length then _ else _) = _; rw [HJ.out, if_pos hf]⟩, HBU3, HBX3⟩
        · subst hq
          clear HC48
          go_wp2_with (first
            | (at_builtin; refine Kd.R_append k33 (w0 := w) w.heap.size rfl (.tmp 51) (.tmp 55) 24 33 _ 32 rfl Try.underlying24 info33 rfl (by decide) (by decide) (.slice A9 out.length c9) out ⟨x.f0, 1000, 0, 0⟩ [.int .i64 x.f0, .int .i64 1000, .int .i64 0, .int .i64 0] (fun _ => True) (fun _ => False) rfl rfl (k33_mkM _ _ _ _) (fun _ h => h.elim) (fun _ _ => trivial) HBU3.out.o HBU3.out.b HBU3.out.b.size (by omega) ?_; intro v9 w4 ho4 hb4 hg4 hat4; have HBU4 := Aside0.mk (HBU3.out.wrote9 ho4 hg4); have HBX4 := Aside0.mk (HBX3.out.grown HBU3.out.o (by decide) hg4); clear ho4 hb4 hg4 hat4)
            | (at_builtin; refine Kd.R_append Kd.bool (w0 := w) w.heap.size rfl (.tmp 57) (.tmp 58) 40 4 _ 1 rfl Try.underlying40 info4 rfl (by decide) (by decide) u10 known false [.bool false] (fun _ => True) (fun _ => False) rfl rfl rfl (fun _ h => h.elim) (fun _ _ => trivial) HBU4.out.n HBU4.out.b HBU4.out.b.size (by rw [HL1.out]; omega) ?_; intro v10 w5 hn5 hb5 hg5 hat5; have HBU5 := Aside0.mk (HBU4.out.wrote10 hn5 hg5); have HBX5 := Aside0.mk (HBX4.out.grown HBU4.out.n (by decide) hg5); clear hn5 hb5 hg5 hat5))
          go_meet
          case rel =>
            obtain ⟨g9, d9, e9, _, _⟩ := Kd.R_form HBU5.out.o (by simp)
            obtain ⟨g10, d10, e10, _, _⟩ := Kd.R_form HBU5.out.n (by simp)
            subst e9 e10
            have el : (known ++ [false]).length = (out ++ [(⟨x.f0, 1000, 0, 0⟩ : S33)]).length := by simp [HL1.out]
            rw [el] at HBU5 ⊢
            exact ⟨out.length, out ++ [⟨x.f0, 1000, 0, 0⟩], known ++ [false], g9, d9, g10, d10, rfl, rfl, rfl, ⟨by simp, el⟩, ⟨fun p => by show (if findI out x.f0 < out.length then _ else _) = _; rw [if_neg hf]⟩, HBU5, HBX5⟩
      case rest =>
        clear HBU3 HBX3 HC48 x0
        obtain ⟨j, o, n, g9, d9, g10, d10, rfl, rfl, rfl, HJ, HS, HBU4, HBX4⟩ := hcut
        have hkt : k < ts.length := by rw [HTS.out]; exact hlt
        obtain ⟨_, _, hC11⟩ := Kd.R_reads' HBU4.out.t
        obtain ⟨ad1, e1, ht0, ht1, ht2⟩ := at_T45 hC11 (k : Int) (by omega) (by omega)
        subst e1
        clear hC11
        simp only [Int.toNat_natCast] at ht0 ht1 ht2
        have HPk := Aside0.mk (HP.out k hlt)
        obtain ⟨t, ht⟩ : ∃ t, rd_T45 ts (k : Int) = t := ⟨_, rfl⟩
        rw [ht] at ht0 ht1 ht2 HPk
        clear ht
        obtain ⟨p, hp⟩ : ∃ p, pr k = p := ⟨_, rfl⟩
        rw [hp] at HPk
        have HPR := Aside0.mk hp
        clear hp
        go_upto_region 17 with (go_at_call 16; refine (timeline_progress.calls kP t.f0 t.f1 t.f2 click at_ p _ HPk.out).mono ?_; rintro e w5 ⟨rfl, hb5⟩; have HBU5 := Aside0.mk (HBU4.out.below hb5); have HBX5 := Aside0.mk (HBX4.out.below hb5); clear hb5)
        clear HBU4 HBX4 ht0 ht1 ht2 HPk
        obtain ⟨x0, x1, x5, x6⟩ := HBX5.out.cells
        obtain ⟨hj, hn⟩ := HJ.out
        have HN := Aside0.mk hn
        clear hn HJ
        obtain ⟨o0, o1, o2, o3, of⟩ := el33 HBU5.out.o j hj
        obtain ⟨c, hc⟩ : ∃ c, o.getD j z33 = c := ⟨_, rfl⟩
        rw [hc] at o0 o1 o2 o3
        have HC := Aside0.mk hc
        clear hc
        by_cases hby : x.f1 = 2
        · have hb1 : (x.f1 == 2) = true := beq_iff_eq.2 hby
          have HBY := Aside0.mk hby
          clear hby
          have of2 := of 2
          have of3 := of 3
          clear of
          go_upto_region 18 with fail
          refine wp_region_still_tail 12 (by kernel_rfl) (by kernel_rfl) ?_
          simp only [List.take_succ_cons, List.take_zero, List.drop_succ_cons, List.drop_zero]
          repeat still_step
          still_call (part_calls _ _ _)
          repeat still_step
          refine wpStill_nil ?_
          change wpList _ _ _ _ _ w5.drew
          obtain ⟨w6, h6⟩ : ∃ w6, w5.drew = w6 := ⟨_, rfl⟩
          have HBU6 := Aside0.mk (HBU5.out.drewN 1)
          have HBX6 := Aside0.mk (HBX5.out.below (pw_below_drewN (Below.refl _ _) 1))
          rw [show w5.drewN 1 = w6 from h6] at HBU6 HBX6
          rw [h6]
          clear h6 HBU5 HBX5 o0 o1 o2 o3 of2 of3 x0 x1 x5 x6
          have HBU7 := Aside0.mk (HBU6.out.put j 2 hj (by omega) (wrap64 (c.f2 + part_ x.f5 p)) ⟨c.f0, c.f1, wrap64 (c.f2 + part_ x.f5 p), c.f3⟩ (by rw [HC.out]; rfl))
          have HBX7 := Aside0.mk (HBU6.out.putx HBX6.out (j * 4 + 2) (.int .i64 (wrap64 (c.f2 + part_ x.f5 p))))
          obtain ⟨_, _, o2, _, of⟩ := el33 HBU6.out.o j hj
          rw [HC.out] at o2
          have of2 := of 2
          clear of
          go_upto_region 19 with fail
          clear o2 of2
          obtain ⟨w7, h7⟩ : ∃ w7, w6.setCell ⟨g9, j * 4 + 2, none⟩ (.int .i64 (wrap64 (c.f2 + part_ x.f5 p))) = w7 := ⟨_, rfl⟩
          rw [h7] at HBU7 HBX7 ⊢
          clear h7 HBU6 HBX6
          have ey : (o.set j ⟨c.f0, c.f1, wrap64 (c.f2 + part_ x.f5 p), c.f3⟩).getD j z33 = ⟨c.f0, c.f1, wrap64 (c.f2 + part_ x.f5 p), c.f3⟩ := by rw [List.getD_eq_getElem?_getD, List.getElem?_set_self hj]; rfl
          have HEY := Aside0.mk ey
          clear ey
          obtain ⟨_, _, _, o3, of⟩ := el33 HBU7.out.o j hj
          rw [HEY.out] at o3
          obtain ⟨_, _, _, x6⟩ := HBX7.out.cells
          have of3 := of 3
          clear of
          refine wp_region_still_tail 12 (by kernel_rfl) (by kernel_rfl) ?_
          simp only [List.take_succ_cons, List.take_zero, List.drop_succ_cons, List.drop_zero]
          repeat still_step
          still_call (part_calls _ _ _)
          repeat still_step
          refine wpStill_nil ?_
          change wpList _ _ _ _ _ w7.drew
          obtain ⟨w8, h8⟩ : ∃ w8, w7.drew = w8 := ⟨_, rfl⟩
          have HBU8 := Aside0.mk (HBU7.out.drewN 1)
          rw [show w7.drewN 1 = w8 from h8] at HBU8
          rw [h8]
          clear h8 HBU7 HBX7 o3 of3 x6
          obtain ⟨_, _, _, o3, of⟩ := el33 HBU8.out.o j hj
          rw [HEY.out] at o3
          have of3 := of 3
          clear of
          have HBU9 := Aside0.mk (HBU8.out.put j 3 hj (by omega) (wrap64 (c.f3 + part_ x.f6 p)) ⟨c.f0, c.f1, wrap64 (c.f2 + part_ x.f5 p), wrap64 (c.f3 + part_ x.f6 p)⟩ (by rw [HEY.out]; rfl))
          go_wp2_with fail
          go_roundg (l.length - (k + 1))
          case measure => omega
          case rel =>
            refine ⟨k + 1, by omega, by omega, by go_num, ?_⟩
            have e : stTo l pr (k + 1) = (roundO o n x p j, roundK n x j) := by
              show stStep (stTo l pr k) (rd_T37 l (k : Int)) (pr k) = _
              rw [HST.out, HX.out, HPR.out, HS.out]
            rw [e]
            have e2 : roundO o n x p j = (o.set j ⟨c.f0, c.f1, wrap64 (c.f2 + part_ x.f5 p), c.f3⟩).set j ⟨c.f0, c.f1, wrap64 (c.f2 + part_ x.f5 p), wrap64 (c.f3 + part_ x.f6 p)⟩ := by
              unfold roundO
              rw [if_pos HBY.out, HC.out, List.set_set]
            have e3 : roundK n x j = n := if_pos HBY.out
            show Aside0 (Bun _ _ _ _ _ (roundO o n x p j) (roundK n x j) ts)
            rw [e2, e3]
            exact HBU9
        · have hb1 : (x.f1 == 2) = false := beq_eq_false_iff_ne.2 hby
          have HBY := Aside0.mk hby
          clear hby
          obtain ⟨ok, okf⟩ := HBU5.out.knownAt j hj
          obtain ⟨b, hb⟩ : ∃ b, n.getD j false = b := ⟨_, rfl⟩
          rw [hb] at ok
          have HBV := Aside0.mk hb
          clear hb
          have of1 := of 1
          clear of o0 o2 o3 x5 x6
          obtain ⟨kd, hkd⟩ : ∃ kd, x.f1 = kd := ⟨_, rfl⟩
          rw [hkd] at x1 hb1
          have HKD := Aside0.mk hkd
          clear hkd
          go_upto_region 20 with fail
          go_cut [103] (fun v103 wc => v103 = .bool (!b && (kd == 0)) ∧ wc = w5)
          case first =>
            cases b
            · go_wp2_with fail
              go_meet
              case rel => exact ⟨rfl, rfl⟩
            · go_wp2_with fail
              go_meet
              case rel => exact ⟨rfl, rfl⟩
          case rest =>
            obtain ⟨rfl, rfl⟩ := hcut
            obtain ⟨z, hz⟩ : ∃ z, (!b && (kd == 0)) = z := ⟨_, rfl⟩
            rw [hz]
            have HZ := Aside0.mk hz
            clear hz
            go_upto_if 103 with fail
            go_cut [] (fun wd => Aside0 (Bun w wd (.slice (some ⟨g9, 0, none⟩) o.length d9) (.slice (some ⟨g10, 0, none⟩) o.length d10) (.slice (some ad1) ts.length c11) (o.set j ⟨c.f0, seen0 b x c, c.f2, c.f3⟩) n ts) ∧ Aside0 (BX wd gx x))
            case first =>
              cases z
              · go_wp2_with fail
                go_meet
                case rel =>
                  have e : seen0 b x c = c.f1 := by
                    unfold seen0
                    rw [if_neg]
                    rintro ⟨rfl, h0⟩
                    have := HZ.out
                    rw [HKD.out] at h0
                    subst h0
                    exact absurd this (by decide)
                  refine ⟨⟨?_⟩, HBX5⟩
                  rw [e]
                  have e2 : o.set j ⟨c.f0, c.f1, c.f2, c.f3⟩ = o := by
                    have h3 : o[j] = c := by rw [← HC.out, List.getD_eq_getElem?_getD, List.getElem?_eq_getElem hj]; rfl
                    have h4 : (⟨c.f0, c.f1, c.f2, c.f3⟩ : S33) = o[j] := by rw [h3]
                    rw [h4]
                    exact List.set_getElem_self hj
                  rw [e2]
                  exact HBU5.out
              · go_wp2_with fail
                go_meet
                case rel =>
                  have e : seen0 b x c = 0 := by
                    unfold seen0
                    rw [if_pos]
                    have := HZ.out
                    rw [Bool.and_eq_true] at this
                    exact ⟨by simpa using this.1, by rw [HKD.out]; simpa using this.2⟩
                  rw [e]
                  exact ⟨⟨HBU5.out.put j 1 hj (by omega) 0 ⟨c.f0, 0, c.f2, c.f3⟩ (by rw [HC.out]; rfl)⟩, ⟨HBU5.out.putx HBX5.out (j * 4 + 1) (.int .i64 0)⟩⟩
            case rest =>
              obtain ⟨HBU6, HBX6⟩ := hcut
              clear HBU5 HBX5 ok okf of1 x1 o1
              obtain ⟨okc, okf⟩ := HBU6.out.knownAt j hj
              go_upto_region 23 with fail
              have HBU7 := Aside0.mk (HBU6.out.putk j true)
              have HBX7 := Aside0.mk (HBU6.out.putkx HBX6.out j (.bool true))
              obtain ⟨w7, h7⟩ : ∃ w7, wc.setCell ⟨g10, j, none⟩ (.bool true) = w7 := ⟨_, rfl⟩
              rw [h7] at HBU7 HBX7 ⊢
              clear h7 HBU6 HBX6 okc okf
              obtain ⟨s0, hs0⟩ : ∃ s0, seen0 b x c = s0 := ⟨_, rfl⟩
              rw [hs0] at HBU7
              have HS0 := Aside0.mk hs0
              clear hs0
              have x1 := HBX7.out.cells.2.1
              rw [HKD.out] at x1
              have ey : (o.set j ⟨c.f0, s0, c.f2, c.f3⟩).getD j z33 = ⟨c.f0, s0, c.f2, c.f3⟩ := by rw [List.getD_eq_getElem?_getD, List.getElem?_set_self hj]; rfl
              have HEY := Aside0.mk ey
              clear ey
              obtain ⟨_, o1, _, _, of⟩ := el33 HBU7.out.o j hj
              rw [HEY.out] at o1
              have of1 := of 1
              clear of
              have fin : ∀ (W : World) (s : Int), Aside0 (Bun w W (.slice (some ⟨g9, 0, none⟩) o.length d9) (.slice (some ⟨g10, 0, none⟩) o.length d10) (.slice (some ad1) ts.length c11) (o.set j ⟨c.f0, s, c.f2, c.f3⟩) (n.set j true) ts) → seen1 x p s0 = s →
                  Aside0 (Bun w W (.slice (some ⟨g9, 0, none⟩) o.length d9) (.slice (some ⟨g10, 0, none⟩) o.length d10) (.slice (some ad1) ts.length c11) (stTo l pr (k + 1)).1 (stTo l pr (k + 1)).2 ts) := by
                intro W s h hs
                have e : stTo l pr (k + 1) = (roundO o n x p j, roundK n x j) := by
                  show stStep (stTo l pr k) (rd_T37 l (k : Int)) (pr k) = _
                  rw [HST.out, HX.out, HPR.out, HS.out]
                rw [e]
                have e2 : roundO o n x p j = o.set j ⟨c.f0, s, c.f2, c.f3⟩ := by
                  unfold roundO
                  rw [if_neg HBY.out, HC.out, HBV.out, HS0.out, hs]
                have e3 : roundK n x j = n.set j true := if_neg HBY.out
                show Aside0 (Bun _ _ _ _ _ (roundO o n x p j) (roundK n x j) ts)
                rw [e2, e3]
                exact h
              have FIN := Aside0.mk fin
              clear fin
              by_cases k0 : kd = 0
              · subst k0
                by_cases hp : 0 < p
                · have hpb : decide (0 < p) = true := decide_eq_true hp
                  have HPP := Aside0.mk hp
                  clear hp
                  obtain ⟨m, hm⟩ : ∃ m, mx s0 p = m := ⟨_, rfl⟩
                  have HM := Aside0.mk hm
                  have hm_ : (if s0 < p then p else s0) = m := hm
                  clear hm
                  go_wp2_with fail
                  go_roundg (l.length - (k + 1))
                  case measure => omega
                  case rel =>
                    refine ⟨k + 1, by omega, by omega, by go_num, FIN.out _ m ⟨?_⟩ ?_⟩
                    · have h := HBU7.out.put j 1 hj (by omega) m ⟨c.f0, m, c.f2, c.f3⟩ (by rw [HEY.out]; rfl)
                      rw [List.set_set] at h
                      exact h
                    · exact (if_pos ⟨HKD.out, HPP.out⟩).trans HM.out
                · have hpb : decide (0 < p) = false := decide_eq_false hp
                  have HPP := Aside0.mk hp
                  clear hp
                  go_wp2_with fail
                  go_roundg (l.length - (k + 1))
                  case measure => omega
                  case rel => exact ⟨k + 1, by omega, by omega, by go_num, FIN.out _ s0 HBU7 (by unfold seen1; rw [if_neg (fun h => absurd h.2 (by have := HPP.out; omega)), if_neg (fun h => absurd h.2 (by have := HPP.out; omega))])⟩
              · have kb : (kd == 0) = false := beq_eq_false_iff_ne.2 k0
                have HK0 := Aside0.mk k0
                clear k0
                by_cases k1 : kd = 1
                · subst k1
                  by_cases hp : 0 < p
                  · have hpb : decide (0 < p) = true := decide_eq_true hp
                    have HPP := Aside0.mk hp
                    clear hp
                    obtain ⟨m, hm⟩ : ∃ m, mn s0 (wrap64 (1000 - p)) = m := ⟨_, rfl⟩
                    have HM := Aside0.mk hm
                    have hm_ : (if wrap64 (1000 - p) < s0 then wrap64 (1000 - p) else s0) = m := hm
                    clear hm
                    go_wp2_with fail
                    go_roundg (l.length - (k + 1))
                    case measure => omega
                    case rel =>
                      refine ⟨k + 1, by omega, by omega, by go_num, FIN.out _ m ⟨?_⟩ ?_⟩
                      · have h := HBU7.out.put j 1 hj (by omega) m ⟨c.f0, m, c.f2, c.f3⟩ (by rw [HEY.out]; rfl)
                        rw [List.set_set] at h
                        exact h
                      · unfold seen1; rw [if_neg (by rw [HKD.out]; simp), if_pos ⟨HKD.out, HPP.out⟩]; exact HM.out
                  · have hpb : decide (0 < p) = false := decide_eq_false hp
                    have HPP := Aside0.mk hp
                    clear hp
                    go_wp2_with fail
                    go_roundg (l.length - (k + 1))
                    case measure => omega
                    case rel => exact ⟨k + 1, by omega, by omega, by go_num, FIN.out _ s0 HBU7 (by unfold seen1; rw [if_neg (fun h => absurd h.2 (by have := HPP.out; omega)), if_neg (fun h => absurd h.2 (by have := HPP.out; omega))])⟩
                · have kb1 : (kd == 1) = false := beq_eq_false_iff_ne.2 k1
                  have HK1 := Aside0.mk k1
                  clear k1
                  go_wp2_with fail
                  go_roundg (l.length - (k + 1))
                  case measure => omega
                  case rel => exact ⟨k + 1, by omega, by omega, by go_num, FIN.out _ s0 HBU7 (by unfold seen1; rw [HKD.out, if_neg (fun h => HK0.out h.1), if_neg (fun h => HK1.out h.1)])⟩
    · have hkl : k = l.length := by omega
      rw [hkl] at HST
      have HI := Aside0.mk hI
      clear hI hkl
      have HL := Aside0.mk hl2
      have h30 : out.length ≤ 1000 := by omega
      go_wp2_with fail
      have hI2 : ∀ s ∈ out, 1 ≤ s.f0 ∧ s.f0 ≤ 1073741824 := by
        have := HI.out
        rw [HST.out] at this
        exact this
      refine (sort_calls _ out w wr HBU.out.o HBU.out.b hI2 h30).mono ?_
      rintro e w9 ⟨rfl, A, c, s, e9, hperm, hpw, hsc, hC, hB⟩
      subst e9
      have FINISH : StateR w (stTo l pr l.length).1 (.returned (.tuple #[.slice A s.length c, .int .i64 0])) w9 := by
        rw [HST.out]
        exact ⟨A, c, s, rfl, hperm, hpw, hsc, hC, hB⟩
      have FIN := Aside0.mk FINISH
      clear FINISH hperm hpw hsc hC hB hI2
      go_wp2_with fail
      go_ret2
      exact FIN.out
end Go.Proofs.Ytmjdeejccmcpnaa.Q
