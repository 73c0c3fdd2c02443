/- bases: the clicks and bases of effects, in plain words, and the walk of the Go function. -/
import Derived.Test.YtmjdeejccmcpnaaS2
import Derived.StillTailTactics
namespace Go.Proofs.Ytmjdeejccmcpnaa.Q
open Go.RowKit Go.Proofs.YtmjdeejccmcpnaaW.PrintWords Go.Proofs.YtmjdeejccmcpnaaW.PrintLast Go.Proofs.YtmjdeejccmcpnaaW.PrintMore
attribute [local go_sem] max2_int min2_int max_two min_two max_three min_three max_four min_four
set_option linter.unusedVariables false
set_option linter.unusedSimpArgs false
def maxTo (o : List S45) (c : Int) : Nat → Int
  | 0 => 0
  | j + 1 => if (rd_T45 o (j : Int)).f0 = c then mx (maxTo o c j) (rd_T45 o (j : Int)).f2 else maxTo o c j
def bClick (c : Int) (x : S37) : Int := if x.f2 = 0 then wrap64 (c + 1) else c
def bBase (o : List S45) (c : Int) (x px : S37) (k : Nat) : Int :=
  if x.f2 = 0 then 0 else if k = 0 then 0 else if x.f2 = 1 then wrap64 ((rd_T45 o ((k - 1 : Nat) : Int)).f1 - px.f3) else maxTo o c o.length
def bStep (o : List S45) (c : Int) (x px : S37) (k : Nat) : List S45 × Int :=
  (o ++ [⟨bClick c x, wrap64 (bBase o c x px k + x.f3), wrap64 (wrap64 (bBase o c x px k + x.f3) + x.f4)⟩], bClick c x)
def bTo (l : List S37) : Nat → List S45 × Int
  | 0 => ([], 0)
  | k + 1 => bStep (bTo l k).1 (bTo l k).2 (rd_T37 l (k : Int)) (rd_T37 l ((k - 1 : Nat) : Int)) k
theorem bTo_len (l : List S37) (k : Nat) : (bTo l k).1.length = k := by
  induction k with
  | zero => rfl
  | succ k ih => simp [bTo, bStep, ih]
structure BunB (w0 W : World) (v3 : Value) (o : List S45) : Prop where
  o : Kd.R k45 45 W w0.heap.size (fun _ => True) v3 o
  b : Below w0.heap.size w0 W
theorem BunB.below {w0 W W' : World} {v3 : Value} {o : List S45} (h : BunB w0 W v3 o) (hb : Below W.heap.size W W') : BunB w0 W' v3 o := ⟨Kd.R_below h.o hb, h.b.trans (hb.mono h.b.size)⟩
set_option maxHeartbeats 4000000 in
set_option maxRecDepth 100000 in
theorem bases_ok (A0 : Option Addr) (c0 : Nat) (l : List S37) (w : World) (hr0 : Kd.C k37 w A0 l.length l) (hc0 : l.length ≤ c0) (hl : l.length ≤ 30) :
    Calls Try.prog 8 #[.slice A0 l.length c0] w fun e w' => ∃ v, e = .returned v ∧ BunB w w' v (bTo l l.length).1 := by
  have HR0 := Aside0.mk hr0
  have HC0 := Aside0.mk hc0
  clear hr0 hc0
  have HBU := Aside0.mk (BunB.mk (w0 := w) (W := w) (v3 := .slice none 0 0) (o := []) (Kd.R_nil _ _ _ _ _) (Below.refl _ _))
  go_enter Try.func8, Try.ntmps8
  go_wp2
  go_loopg [3, 4, 11] l.length (fun gk v3 v4 v11 wr => ∃ k : Nat, k ≤ l.length ∧ l.length - k ≤ gk ∧ v4 = .int .i64 (bTo l k).2 ∧ v11 = .int .i64 (k : Int) ∧ Aside0 (BunB w wr v3 (bTo l k).1))
  case atStart => exact ⟨0, by omega, by omega, rfl, rfl, HBU⟩
  case round =>
    clear HBU
    obtain ⟨k, hk, hgk, rfl, rfl, HBU⟩ := hrel
    obtain ⟨o, ho⟩ : ∃ o, (bTo l k).1 = o := ⟨_, rfl⟩
    obtain ⟨c, hc⟩ : ∃ c, (bTo l k).2 = c := ⟨_, rfl⟩
    rw [ho] at HBU
    rw [hc]
    have HOL := Aside0.mk (show o.length = k by rw [← ho]; exact bTo_len l k)
    have HST := Aside0.mk (show bTo l (k + 1) = bStep o c (rd_T37 l (k : Int)) (rd_T37 l ((k - 1 : Nat) : Int)) k by rw [← ho, ← hc]; rfl)
    have HOO := Aside0.mk ho
    have hlo : o.length ≤ 30 := by have := HOL.out; omega
    clear ho hc
    by_cases hlt : k < l.length
    · obtain ⟨ad, ead, hx0, hx1, hx2, hx3, hx4, hx5, hx6⟩ := at_T37 (Kd.C_below HR0.out HBU.out.b) (k : Int) (by omega) (by omega)
      subst ead
      simp only [Int.toNat_natCast] at hx0 hx1 hx2 hx3 hx4 hx5 hx6
      obtain ⟨x, hx⟩ : ∃ x, rd_T37 l (k : Int) = x := ⟨_, rfl⟩
      rw [hx] at hx0 hx1 hx2 hx3 hx4 hx5 hx6 HST
      clear hx
      go_upto_region 6 with fail
      have HBU2 := Aside0.mk (HBU.out.below (below_alloc (Below.refl _ _) (.cells #[.int .i64 x.f0, .int .i64 x.f1, .int .i64 x.f2, .int .i64 x.f3, .int .i64 x.f4, .int .i64 x.f5, .int .i64 x.f6] 37)))
      have HBX2 := Aside0.mk (show BX (wr.alloc (.cells #[.int .i64 x.f0, .int .i64 x.f1, .int .i64 x.f2, .int .i64 x.f3, .int .i64 x.f4, .int .i64 x.f5, .int .i64 x.f6] 37)) wr.heap.size x from blk_new _ _)
      obtain ⟨gx, hgx⟩ : ∃ gx, wr.heap.size = gx := ⟨_, rfl⟩
      obtain ⟨w2, h2⟩ : ∃ w2, wr.alloc (.cells #[.int .i64 x.f0, .int .i64 x.f1, .int .i64 x.f2, .int .i64 x.f3, .int .i64 x.f4, .int .i64 x.f5, .int .i64 x.f6] 37) = w2 := ⟨_, rfl⟩
      rw [h2] at HBU2 HBX2 ⊢
      rw [hgx] at HBX2
      simp only [hgx]
      clear h2 hgx hx0 hx1 hx2 hx3 hx4 hx5 hx6 HBU
      obtain ⟨A3, c3, e3, hc3, hC3⟩ := Kd.R_reads HBU2.out.o
      subst e3
      have HC3 := Aside0.mk hc3
      have HR3 := Aside0.mk hC3
      clear hc3 hC3
      obtain ⟨bb, hbb⟩ : ∃ bb, bBase o c x (rd_T37 l ((k - 1 : Nat) : Int)) k = bb := ⟨_, rfl⟩
      obtain ⟨bc, hbc⟩ : ∃ bc, bClick c x = bc := ⟨_, rfl⟩
      have HST2 := Aside0.mk (show bTo l (k + 1) = (o ++ [⟨bc, wrap64 (bb + x.f3), wrap64 (wrap64 (bb + x.f3) + x.f4)⟩], bc) by rw [HST.out]; unfold bStep; rw [hbb, hbc])
      have HBB := Aside0.mk hbb
      have HBC := Aside0.mk hbc
      clear hbb hbc HST
      go_upto_block 2 with fail
      go_cut [4, 7] (fun v4 v7 wc => v4 = .int .i64 bc ∧ v7 = .int .i64 bb ∧ Aside0 (BunB w wc (.slice A3 o.length c3) o) ∧ Aside0 (BX wc gx x))
      case first =>
        have x2 : w2.cell? ⟨gx, 2, none⟩ = some (.int .i64 x.f2) := (blk_cell HBX2.out 2).trans rfl
        by_cases s0 : x.f2 = 0
        · have sb : (x.f2 == 0) = true := beq_iff_eq.2 s0
          have e1 : bc = wrap64 (c + 1) := by rw [← HBC.out]; exact if_pos s0
          have e2 : bb = 0 := by rw [← HBB.out]; exact if_pos s0
          subst e1 e2
          clear s0 HBC HBB
          go_wp2_with fail
          go_meet
          case rel => exact ⟨rfl, rfl, HBU2, HBX2⟩
        · have sb : (x.f2 == 0) = false := beq_eq_false_iff_ne.2 s0
          have e1 : c = bc := by rw [← HBC.out]; exact (if_neg s0).symm
          subst e1
          have HS0 := Aside0.mk s0
          clear s0 HBC
          by_cases k0 : k = 0
          · have e2 : bb = 0 := by rw [← HBB.out]; unfold bBase; rw [if_neg HS0.out, if_pos k0]
            subst e2
            have kb : (((k : Nat) : Int) == 0) = true := beq_iff_eq.2 (by omega)
            have HK0 := Aside0.mk k0
            clear k0
            go_wp2_with fail
            go_meet
            case rel => exact ⟨rfl, rfl, HBU2, HBX2⟩
          · have kb : (((k : Nat) : Int) == 0) = false := beq_eq_false_iff_ne.2 (by omega)
            have HK0 := Aside0.mk k0
            clear k0
            by_cases s1 : x.f2 = 1
            · have sb1 : (x.f2 == 1) = true := beq_iff_eq.2 s1
              have HS1 := Aside0.mk s1
              clear s1
              obtain ⟨m, rfl⟩ : ∃ m, k = m + 1 := ⟨k - 1, by have := HK0.out; omega⟩
              obtain ⟨_, e3, _, p1, _⟩ := at_T45 HR3.out (m : Int) (by omega) (by have := HOL.out; omega)
              obtain ⟨_, e4, _, _, _, p3, _⟩ := at_T37 (Kd.C_below HR0.out HBU2.out.b) (m : Int) (by omega) (by omega)
              injection e4 with e4
              subst e3 e4
              simp only [Int.toNat_natCast] at p1 p3
              have e2 : bb = wrap64 ((rd_T45 o (m : Int)).f1 - (rd_T37 l (m : Int)).f3) := by
                rw [← HBB.out]; unfold bBase; rw [if_neg HS0.out, if_neg HK0.out, if_pos HS1.out]; rfl
              have HE2 := Aside0.mk e2
              clear e2
              have hwm : IntKind.i64.wrap (((m + 1 : Nat) : Int) - 1) = (m : Int) := by rw [IntKind.wrap_i64]; omega
              have hmo : m < o.length := by have := HOL.out; omega
              have hml : m < l.length := by omega
              go_upto_region 17 with fail
              go_quiet (fail)
              go_wp2_with fail
              go_meet
              case rel => exact ⟨rfl, by rw [HE2.out], ⟨HBU2.out.below (pw_below_drewN (Below.refl _ _) nq)⟩, ⟨HBX2.out.below (pw_below_drewN (Below.refl _ _) nq)⟩⟩
            · have sb1 : (x.f2 == 1) = false := beq_eq_false_iff_ne.2 s1
              have e2 : bb = maxTo o c o.length := by
                rw [← HBB.out]; unfold bBase; rw [if_neg HS0.out, if_neg HK0.out, if_neg s1]
              subst e2
              clear s1
              go_wp2_with fail
              go_loopg [7, 18] o.length (fun gq v7 v18 wi => ∃ j : Nat, j ≤ o.length ∧ o.length - j ≤ gq ∧ v7 = .int .i64 (maxTo o c j) ∧ v18 = .int .i64 (j : Int) ∧ Aside0 (BunB w wi (.slice A3 o.length c3) o) ∧ Aside0 (BX wi gx x))
              case atStart => exact ⟨0, by omega, by omega, rfl, rfl, HBU2, HBX2⟩
              case round =>
                clear HBU2 HBX2 HR3 x2
                obtain ⟨j, hj, hgj, rfl, rfl, HBU2, HBX2⟩ := hrel
                by_cases hlj : j < o.length
                · obtain ⟨_, _, hC4⟩ := Kd.R_reads' HBU2.out.o
                  obtain ⟨_, e3, p0, _, p2⟩ := at_T45 hC4 (j : Int) (by omega) (by omega)
                  subst e3
                  clear hC4
                  simp only [Int.toNat_natCast] at p0 p2
                  obtain ⟨y, hy⟩ : ∃ y, rd_T45 o (j : Int) = y := ⟨_, rfl⟩
                  rw [hy] at p0 p2
                  have HMS := Aside0.mk (show maxTo o c (j + 1) = if y.f0 = c then mx (maxTo o c j) y.f2 else maxTo o c j by rw [← hy]; rfl)
                  clear hy
                  obtain ⟨m, hm⟩ : ∃ m, maxTo o c j = m := ⟨_, rfl⟩
                  rw [hm] at HMS ⊢
                  clear hm
                  by_cases hyc : y.f0 = c
                  · have hyb : (y.f0 == c) = true := beq_iff_eq.2 hyc
                    have HE := Aside0.mk (show maxTo o c (j + 1) = mx m y.f2 by rw [HMS.out, if_pos hyc])
                    clear hyc HMS
                    obtain ⟨q, hq⟩ : ∃ q, mx m y.f2 = q := ⟨_, rfl⟩
                    have hq_ : (if m < y.f2 then y.f2 else m) = q := hq
                    have HQ := Aside0.mk hq
                    clear hq
                    go_wp2_with fail
                    go_roundg (o.length - (j + 1))
                    case measure => omega
                    case rel => exact ⟨j + 1, by omega, by omega, by rw [HE.out, HQ.out], by go_num, HBU2, HBX2⟩
                  · have hyb : (y.f0 == c) = false := beq_eq_false_iff_ne.2 hyc
                    have HE := Aside0.mk (show maxTo o c (j + 1) = m by rw [HMS.out, if_neg hyc])
                    clear hyc HMS
                    go_wp2_with fail
                    go_roundg (o.length - (j + 1))
                    case measure => omega
                    case rel => exact ⟨j + 1, by omega, by omega, by rw [HE.out], by go_num, HBU2, HBX2⟩
                · have hjo : j = o.length := by omega
                  subst hjo
                  go_wp2_with fail
                  go_meet
                  case rel => exact ⟨rfl, rfl, HBU2, HBX2⟩
      case rest =>
        clear HBU2 HBX2 HBB HBC HR3 HC3
        obtain ⟨rfl, rfl, HBU4, HBX4⟩ := hcut
        have x3 : wc.cell? ⟨gx, 3, none⟩ = some (.int .i64 x.f3) := (blk_cell HBX4.out 3).trans rfl
        have x4 : wc.cell? ⟨gx, 4, none⟩ = some (.int .i64 x.f4) := (blk_cell HBX4.out 4).trans rfl
        go_wp2_with (at_builtin; refine Kd.R_append k45 (w0 := w) w.heap.size rfl (.tmp 62) (.tmp 76) 30 45 _ 24 rfl Try.underlying30 info45 rfl (by decide) (by decide) (.slice A3 o.length c3) o ⟨bc, wrap64 (bb + x.f3), wrap64 (wrap64 (bb + x.f3) + x.f4)⟩ [.int .i64 bc, .int .i64 (wrap64 (bb + x.f3)), .int .i64 (wrap64 (wrap64 (bb + x.f3) + x.f4))] (fun _ => True) (fun _ => False) rfl rfl (k45_mkM _ _ _ _) (fun _ h => h.elim) (fun _ _ => trivial) HBU4.out.o HBU4.out.b HBU4.out.b.size (by omega) ?_; intro v3 w4 ho4 hb4 hg4 hat4; have HBU5 := Aside0.mk (BunB.mk ho4 hb4); clear ho4 hb4 hg4 hat4)
        go_roundg (l.length - (k + 1))
        case measure => omega
        case rel =>
          refine ⟨k + 1, by omega, by omega, by rw [HST2.out], by go_num, ?_⟩
          rw [HST2.out]
          exact HBU5
    · have hkl : k = l.length := by omega
      subst hkl
      go_wp2_with fail
      go_ret
      exact ⟨_, rfl, by rw [HOO.out]; exact HBU.out⟩
end Go.Proofs.Ytmjdeejccmcpnaa.Q
