/- The law's own walk, where State answers. -/
import Derived.Test.YtmjdeejccmcpnaaT2
import Derived.Deep.RegionHeld3
namespace Go.Proofs.Ytmjdeejccmcpnaa.Q
open Go.RowKit Go.Proofs.YtmjdeejccmcpnaaW.PrintWords Go.Proofs.YtmjdeejccmcpnaaW.PrintLast Go.Proofs.YtmjdeejccmcpnaaW.PrintMore
set_option linter.unusedVariables false
set_option linter.unusedSimpArgs false
attribute [local go_sem high] eqA33
structure Ctx3 (w W : World) (A0 : Option Addr) (c0 : Nat) (l : List S37) (A7 : Option Addr) (c7 : Nat) (s : List S33) (A10 : Option Addr) (c10 : Nat) (t : List S45) : Prop where
  x : Ctx w W A0 c0 l
  rs : Kd.C k33 W A7 s.length s
  sc : s.length ≤ c7
  rt : Kd.C k45 W A10 t.length t
  tc : t.length ≤ c10
theorem Ctx3.step {w W W' : World} {A0 A7 A10 : Option Addr} {c0 c7 c10 : Nat} {l : List S37} {s : List S33} {t : List S45} (h : Ctx3 w W A0 c0 l A7 c7 s A10 c10 t) (hb : Below W.heap.size W W') : Ctx3 w W' A0 c0 l A7 c7 s A10 c10 t :=
  ⟨h.x.step hb, Kd.C_below h.rs hb, h.sc, Kd.C_below h.rt hb, h.tc⟩
/-- an item's own box -/
def BS (W : World) (g : Nat) (x : S33) : Prop := W.heap[g]? = some (.cells #[.int .i64 x.f0, .int .i64 x.f1, .int .i64 x.f2, .int .i64 x.f3] 33 (0, 0))
theorem BS.cells {W : World} {g : Nat} {x : S33} (h : BS W g x) : W.cell? ⟨g, 0, none⟩ = some (.int .i64 x.f0) ∧ W.cell? ⟨g, 1, none⟩ = some (.int .i64 x.f1) ∧ W.cell? ⟨g, 2, none⟩ = some (.int .i64 x.f2) ∧ W.cell? ⟨g, 3, none⟩ = some (.int .i64 x.f3) :=
  ⟨(blk_cell h 0).trans rfl, (blk_cell h 1).trans rfl, (blk_cell h 2).trans rfl, (blk_cell h 3).trans rfl⟩
theorem BS.below {W W' : World} {g : Nat} {x : S33} (h : BS W g x) (hb : Below W.heap.size W W') : BS W' g x := blk_below h hb
def lastTo (s : List S33) (k : Nat) : Int := if k = 0 then 0 else (s.getD (k - 1) z33).f0
theorem last_lt {s : List S33} (h1 : s.Pairwise (fun a b => a.f0 < b.f0)) (h2 : ∀ x ∈ s, 1 ≤ x.f0) (k : Nat) (hk : k < s.length) : lastTo s k < (s.getD k z33).f0 := by
  have e1 : s.getD k z33 = s[k] := by rw [List.getD_eq_getElem?_getD, List.getElem?_eq_getElem hk]; rfl
  rw [e1]
  unfold lastTo
  by_cases h0 : k = 0
  · rw [if_pos h0]
    have := h2 s[k] (List.getElem_mem hk)
    omega
  · have e2 : s.getD (k - 1) z33 = s[k - 1] := by rw [List.getD_eq_getElem?_getD, List.getElem?_eq_getElem (by omega : k - 1 < s.length)]; rfl
    rw [if_neg h0, e2]
    exact List.pairwise_iff_getElem.1 h1 (k - 1) k (by omega) hk (by omega)
/-- ascending, and no two of one number: strictly ascending -/
theorem strict {s : List S33} (h1 : s.Pairwise (fun a b => a.f0 ≤ b.f0)) (h2 : s.Pairwise (fun a b => a.f0 ≠ b.f0)) : s.Pairwise (fun a b => a.f0 < b.f0) :=
  (h1.and h2).imp fun ⟨ha, hb⟩ => by omega
theorem any_pos {l : List S37} {p : S37 → Bool} (h : l.any p = true) : 0 < l.length := by cases l with | nil => simp at h | cons _ _ => simp
theorem mem_getD {s : List S33} {k : Nat} (hk : k < s.length) : s.getD k z33 ∈ s := by
  have e1 : s.getD k z33 = s[k] := by rw [List.getD_eq_getElem?_getD, List.getElem?_eq_getElem hk]; rfl
  rw [e1]
  exact List.getElem_mem hk
set_option maxHeartbeats 4000000 in
set_option maxRecDepth 100000 in
theorem law_ok (A0 : Option Addr) (c0 : Nat) (L : List S37) (click at_ : Int) (w : World) (hr0 : Kd.C k37 w A0 L.length L) (hc0 : L.length ≤ c0)
    (kC kE kT kP kS : Nat) (hC : timeline_Check.f kC (L.take 30) = some 0) (hE : chancerylaw3_effectsError.f kE (L.take 30) = some 0)
    (ts : List S45) (hT : timeline_times.f kT (L.take 30) = some ts) (hts : ts.length = (L.take 30).length) (pr : Nat → Int)
    (hP : ∀ k, k < (L.take 30).length → timeline_progress.f kP (rd_T45 ts (k : Int)).f0 (rd_T45 ts (k : Int)).f1 (rd_T45 ts (k : Int)).f2 click at_ = some (pr k))
    (hI : ∀ s ∈ (stTo (L.take 30) pr (L.take 30).length).1, 1 ≤ s.f0 ∧ s.f0 ≤ 1073741824)
    (hS : ∀ s ∈ (stTo (L.take 30) pr (L.take 30).length).1, chancerylaw3_stateOf.f kS (L.take 30) (bTo (L.take 30) (L.take 30).length).1 s.f0 click at_ = some (s.f0, s.f1, s.f2, s.f3))
    (hA : ∀ s ∈ (stTo (L.take 30) pr (L.take 30).length).1, ((L.take 30).any fun y => y.f0 == s.f0) = true)
    (hN : (stTo (L.take 30) pr (L.take 30).length).1.Pairwise (fun a b => a.f0 ≠ b.f0))
    (hM : ∀ x ∈ L.take 30, ∃ s ∈ (stTo (L.take 30) pr (L.take 30).length).1, s.f0 = x.f0)
    (hr : 0 ≤ click ∧ click ≤ 200 ∧ 0 ≤ at_ ∧ at_ ≤ 10000000) :
    Calls Try.prog 3 #[.slice A0 L.length c0, .int .i64 click, .int .i64 at_] w fun e w' => e = .returned (.bool true) ∧ Below w.heap.size w w' := by
  have hm := hr0.2.1
  have HX := Aside0.mk (show Ctx w w A0 c0 (L.take 30) from ⟨C_30 hr0, by rw [List.length_take]; omega, Below.refl _ _⟩)
  obtain ⟨l, hl⟩ : ∃ l, L.take 30 = l := ⟨_, rfl⟩
  rw [hl] at hC hE hT hts hP hI hS hA hN hM HX
  have hcapL : L.length ≤ c0 := hc0
  have hl30 : l.length ≤ 30 := by rw [← hl, List.length_take]; omega
  have HL := Aside0.mk hl
  clear hl hr0
  have hst := fun (W : World) (h : Kd.C k37 W A0 l.length l) (h2 : l.length ≤ c0) => state_ok A0 c0 l click at_ W h h2 hl30 kC kT kP hC ts hT hts pr hP hI hr.1 hr.2.1 hr.2.2.1 hr.2.2.2
  have HST := Aside0.mk hst
  obtain ⟨out, hout⟩ : ∃ out, (stTo l pr l.length).1 = out := ⟨_, rfl⟩
  rw [hout] at HST hI hS hA hN hM
  have HC := Aside0.mk hC
  have HE := Aside0.mk hE
  have HI1 := Aside0.mk (show chanceryref3_In.f click 0 200 = some true by rw [In_some]; simp [hr.1, hr.2.1])
  have HI2 := Aside0.mk (show chanceryref3_In.f at_ 0 10000000 = some true by rw [In_some]; simp [hr.2.2.1, hr.2.2.2])
  have HI := Aside0.mk hI
  have HS := Aside0.mk hS
  have HA := Aside0.mk hA
  have HN := Aside0.mk hN
  have HM := Aside0.mk hM
  clear hst hout hC hE hr hT hts hP hI hS hA hN hM
  go_enter Try.func3, Try.ntmps3
  go_upto_if 23 with (go_at_call 4; refine (timed_ok _).mono ?_; rintro e w1 ⟨rfl, hb1⟩; have HX1 := Aside0.mk (HX.out.step hb1); clear hb1)
  go_cut [0] (fun v0 wc => v0 = .slice A0 l.length c0 ∧ Aside0 (Ctx w wc A0 c0 l))
  case first =>
    by_cases h30 : 30 < L.length
    · have hll : 30 = l.length := by rw [← HL.out, List.length_take]; omega
      go_wp2_with fail
      go_meet
      case rel => exact ⟨by rw [← hll], HX1⟩
    · have hll : l = L := by rw [← HL.out]; exact List.take_of_length_le (by omega)
      subst hll
      go_wp2_with fail
      go_meet
      case rel => exact ⟨rfl, HX1⟩
  case rest =>
    clear HX HX1
    obtain ⟨rfl, HX⟩ := hcut
    go_upto_region 11 with (first
      | (go_at_call 5; refine (HST.out _ HX.out.now HX.out.c).mono ?_; rintro e w2 ⟨A7, c7, s, rfl, hperm, hsort, hsc, hsC, hb2'⟩; have HPM := Aside0.mk hperm; have HSO := Aside0.mk hsort; have HSC := Aside0.mk hsc; have HSV := Aside0.mk hsC; have HX2 := Aside0.mk (HX.out.step hb2'); clear hb2' hperm hsort hsc hsC)
      | (go_at_call 6; refine (chancerylaw3_effectsError.calls kE A0 c0 l 0 _ HX2.out.now HX2.out.c HE.out).mono ?_; rintro e w3 ⟨rfl, hb3⟩; have HX3 := Aside0.mk (HX2.out.step hb3); have HSV3 := Aside0.mk (Kd.C_below HSV.out hb3); clear hb3)
      | (go_at_call_of 7 (Value.int .i64 click); refine (chanceryref3_In.calls click 0 200 true _ HI1.out).mono ?_; rintro e w4 ⟨rfl, hb4⟩; have HX4 := Aside0.mk (HX3.out.step hb4.below); have HSV4 := Aside0.mk (Kd.C_below HSV3.out hb4.below); clear hb4)
      | (go_at_call_of 7 (Value.int .i64 at_); refine (chanceryref3_In.calls at_ 0 10000000 true _ HI2.out).mono ?_; rintro e w5 ⟨rfl, hb5⟩; have HX5 := Aside0.mk (HX4.out.step hb5.below); have HSV5 := Aside0.mk (Kd.C_below HSV4.out hb5.below); clear hb5))
    have HX6 := HX5
    have HSV6 := HSV5
    clear HX HX2 HX3 HX4 HX5 HSV HSV3 HSV4 HSV5 HC HE HI1 HI2 HST
    have HLT := Aside0.mk (strict HSO.out (HN.out.perm HPM.out.symm (fun h => Ne.symm h)))
    have HGE := Aside0.mk (show ∀ x ∈ s, 1 ≤ x.f0 from fun x hx => (HI.out x (HPM.out.mem_iff.1 hx)).1)
    have HS2 := Aside0.mk (show ∀ x ∈ s, chancerylaw3_stateOf.f kS l (bTo l l.length).1 x.f0 click at_ = some (x.f0, x.f1, x.f2, x.f3) from fun x hx => HS.out x (HPM.out.mem_iff.1 hx))
    have HA2 := Aside0.mk (show ∀ x ∈ s, (l.any fun y => y.f0 == x.f0) = true from fun x hx => HA.out x (HPM.out.mem_iff.1 hx))
    have HM2 := Aside0.mk (show ∀ x ∈ l, ∃ y ∈ s, y.f0 = x.f0 from fun x hx => by obtain ⟨y, hy, e⟩ := HM.out x hx; exact ⟨y, HPM.out.mem_iff.2 hy, e⟩)
    clear HS HA HM HN HI HPM HSO
    obtain ⟨t, ht⟩ : ∃ t, (bTo l l.length).1 = t := ⟨_, rfl⟩
    rw [ht] at HS2
    have HTT := Aside0.mk ht
    clear ht
    go_upto_region 12 with (go_at_call 8; refine (bases_ok A0 c0 l _ HX6.out.now HX6.out.c hl30).mono ?_; rintro e w7 ⟨v10, rfl, hbb⟩; rw [HTT.out] at hbb; obtain ⟨A10, c10, e10, htc, htC⟩ := Kd.R_reads hbb.o; subst e10; have HB := Aside0.mk (show Ctx3 w w7 A0 c0 l A7 c7 s A10 c10 t from ⟨HX6.out.step hbb.b, Kd.C_below HSV6.out hbb.b, HSC.out, htC, htc⟩); clear hbb htc htC)
    clear HX6 HSV6 HSC HTT
    have hs63 : s.length ≤ 9223372036854775807 := HB.out.rs.2.1
    go_wp2_with fail
    go_loopg [11, 61] s.length (fun gk v11 v61 wr => ∃ k : Nat, k ≤ s.length ∧ s.length - k ≤ gk ∧ v11 = .int .i64 (lastTo s k) ∧ v61 = .int .i64 (k : Int) ∧ Aside0 (Ctx3 w wr A0 c0 l A7 c7 s A10 c10 t))
    case atStart => exact ⟨0, by omega, by omega, rfl, rfl, HB⟩
    case round =>
      clear HB
      obtain ⟨k, hk, hgk, rfl, rfl, HB⟩ := hrel
      by_cases hlt : k < s.length
      · obtain ⟨ad, ead, y0, y1, y2, y3⟩ := at_T33 HB.out.rs k hlt
        subst ead
        obtain ⟨x, hx⟩ : ∃ x, s.getD k z33 = x := ⟨_, rfl⟩
        rw [hx] at y0 y1 y2 y3
        have hmem : x ∈ s := by rw [← hx]; exact mem_getD hlt
        have hla : decide (x.f0 ≤ lastTo s k) = false := by
          have := last_lt HLT.out HGE.out k hlt
          rw [hx] at this
          exact decide_eq_false (by omega)
        have HNL := Aside0.mk (show lastTo s (k + 1) = x.f0 by unfold lastTo; rw [if_neg (by omega)]; show (s.getD k z33).f0 = _; rw [hx])
        have HSX := Aside0.mk (HS2.out x hmem)
        have HAX := Aside0.mk (HA2.out x hmem)
        clear hx hmem
        obtain ⟨q, hq⟩ : ∃ q, lastTo s k = q := ⟨_, rfl⟩
        rw [hq] at hla ⊢
        clear hq
        go_upto_region 16 with fail
        have HB2 := Aside0.mk (HB.out.step (below_alloc (Below.refl _ _) (.cells #[.int .i64 x.f0, .int .i64 x.f1, .int .i64 x.f2, .int .i64 x.f3] 33)))
        have HX2 := Aside0.mk (show BS (wr.alloc (.cells #[.int .i64 x.f0, .int .i64 x.f1, .int .i64 x.f2, .int .i64 x.f3] 33)) wr.heap.size x from blk_new _ _)
        obtain ⟨gx, hgx⟩ : ∃ gx, wr.heap.size = gx := ⟨_, rfl⟩
        obtain ⟨w2, h2⟩ : ∃ w2, wr.alloc (.cells #[.int .i64 x.f0, .int .i64 x.f1, .int .i64 x.f2, .int .i64 x.f3] 33) = w2 := ⟨_, rfl⟩
        rw [h2] at HB2 HX2 ⊢
        rw [hgx] at HX2
        simp only [hgx]
        clear h2 hgx y0 y1 y2 y3 HB
        obtain ⟨x0, x1, x2, x3⟩ := HX2.out.cells
        go_upto_region 19 with fail
        go_cut [85] (fun v85 wc => v85 = .bool false ∧ Aside0 (Ctx3 w wc A0 c0 l (some ad) c7 s A10 c10 t))
        case first =>
          have HB2d := Aside0.mk (HB2.out.step (below_drew (Below.refl _ _)))
          have HX2d := Aside0.mk (HX2.out.below (below_drew (Below.refl _ _)))
          go_region_held3 (fun w' => w'.cell? ⟨gx, 0, none⟩ = some (.int .i64 x.f0) ∧ w'.cell? ⟨gx, 1, none⟩ = some (.int .i64 x.f1) ∧ w'.cell? ⟨gx, 2, none⟩ = some (.int .i64 x.f2) ∧ w'.cell? ⟨gx, 3, none⟩ = some (.int .i64 x.f3) ∧ Aside0 (Ctx3 w w' A0 c0 l (some ad) c7 s A10 c10 t) ∧ Aside0 (BS w' gx x))
            (first | exact ⟨x0, x1, x2, x3, HB2d, HX2d⟩ | exact ⟨z8.1, z8.2.1, z8.2.2.1, z8.2.2.2, HB8, HX8⟩ | exact ⟨z9.1, z9.2.1, z9.2.2.1, z9.2.2.2, HB9, HX9⟩ | go_keep)
            (first
              | (go_at_call 9; rename_i hh _ _; refine (chancerylaw3_stateOf.calls kS A0 c0 l A10 c10 t x.f0 click at_ x.f0 x.f1 x.f2 x.f3 _ hh.2.2.2.2.1.out.x.now hh.2.2.2.2.1.out.x.c hh.2.2.2.2.1.out.rt hh.2.2.2.2.1.out.tc HSX.out).mono ?_; rintro e w8 ⟨rfl, hb8⟩; have HB8 := Aside0.mk (hh.2.2.2.2.1.out.step hb8); have HX8 := Aside0.mk (hh.2.2.2.2.2.out.below hb8); have z8 := HX8.out.cells; clear hb8)
              | (go_at_call 10; rename_i hh _ _; refine (con_calls A0 c0 l gx x.f0 _ hh.2.2.2.2.1.out.x.now hh.2.2.2.2.1.out.x.c (any_pos HAX.out) hh.1).mono ?_; rw [HAX.out]; rintro e w9 ⟨rfl, hb9⟩; have HB9 := Aside0.mk (hh.2.2.2.2.1.out.step hb9); have HX9 := Aside0.mk (hh.2.2.2.2.2.out.below hb9); have z9 := HX9.out.cells; clear hb9))
          go_wp2_with fail
          go_meet
          case rel => exact ⟨rfl, HB9⟩
        case rest =>
          clear HB2 HX2 x0 x1 x2 x3 HSX HAX
          obtain ⟨rfl, HB3⟩ := hcut
          go_wp2_with fail
          go_roundg (s.length - (k + 1))
          case measure => omega
          case rel => exact ⟨k + 1, by omega, by omega, by rw [HNL.out], by go_num, HB3⟩
      · clear HLT HGE HS2 HA2
        obtain ⟨q, hq⟩ : ∃ q, lastTo s k = q := ⟨_, rfl⟩
        rw [hq]
        have hkl : k = s.length := by omega
        subst hkl
        clear hq
        go_wp2_with fail
        go_loopg [89] l.length (fun gk v89 wr => ∃ k : Nat, k ≤ l.length ∧ l.length - k ≤ gk ∧ v89 = .int .i64 (k : Int) ∧ Aside0 (Ctx3 w wr A0 c0 l A7 c7 s A10 c10 t))
        case atStart => exact ⟨0, by omega, by omega, rfl, HB⟩
        case round =>
          clear HB
          obtain ⟨k, hk, hgk, rfl, HB⟩ := hrel
          by_cases hlt : k < l.length
          · obtain ⟨ad, ead, hx0, hx1, hx2, hx3, hx4, hx5, hx6⟩ := at_T37 HB.out.x.now (k : Int) (by omega) (by omega)
            subst ead
            simp only [Int.toNat_natCast] at hx0 hx1 hx2 hx3 hx4 hx5 hx6
            obtain ⟨x, hx⟩ : ∃ x, rd_T37 l (k : Int) = x := ⟨_, rfl⟩
            rw [hx] at hx0 hx1 hx2 hx3 hx4 hx5 hx6
            have hmem : x ∈ l := by
              rw [← hx]
              show l.getD (k : Int).toNat z37 ∈ l
              rw [Int.toNat_natCast, List.getD_eq_getElem?_getD, List.getElem?_eq_getElem hlt]
              exact List.getElem_mem hlt
            have HANY := Aside0.mk (show (s.any fun y => y.f0 == x.f0) = true by
              obtain ⟨y, hy, e⟩ := HM2.out x hmem
              exact List.any_eq_true.2 ⟨y, hy, by simp [e]⟩)
            clear hx hmem
            go_upto_region 25 with fail
            have HB2 := Aside0.mk (HB.out.step (below_alloc (Below.refl _ _) (.cells #[.int .i64 x.f0, .int .i64 x.f1, .int .i64 x.f2, .int .i64 x.f3, .int .i64 x.f4, .int .i64 x.f5, .int .i64 x.f6] 37)))
            have HX2 := Aside0.mk (show BX (wr.alloc (.cells #[.int .i64 x.f0, .int .i64 x.f1, .int .i64 x.f2, .int .i64 x.f3, .int .i64 x.f4, .int .i64 x.f5, .int .i64 x.f6] 37)) wr.heap.size x from blk_new _ _)
            obtain ⟨gx, hgx⟩ : ∃ gx, wr.heap.size = gx := ⟨_, rfl⟩
            obtain ⟨w2, h2⟩ : ∃ w2, wr.alloc (.cells #[.int .i64 x.f0, .int .i64 x.f1, .int .i64 x.f2, .int .i64 x.f3, .int .i64 x.f4, .int .i64 x.f5, .int .i64 x.f6] 37) = w2 := ⟨_, rfl⟩
            rw [h2] at HB2 HX2 ⊢
            rw [hgx] at HX2
            simp only [hgx]
            clear h2 hgx hx0 hx1 hx2 hx3 hx4 hx5 hx6 HB
            go_wp2_with fail
            go_loopg [16, 95] s.length (fun gj v16 v95 wi => ∃ j : Nat, j ≤ s.length ∧ s.length - j ≤ gj ∧ v16 = .bool ((s.take j).any fun y => y.f0 == x.f0) ∧ v95 = .int .i64 (j : Int) ∧ Aside0 (Ctx3 w wi (some ad) c0 l A7 c7 s A10 c10 t) ∧ Aside0 (BX wi gx x))
            case atStart => exact ⟨0, by omega, by omega, by simp, rfl, HB2, HX2⟩
            case round =>
              clear HB2 HX2
              obtain ⟨j, hj, hgj, rfl, rfl, HB2, HX2⟩ := hrel
              by_cases hlj : j < s.length
              · obtain ⟨ad7, e7, y0, y1, y2, y3⟩ := at_T33 HB2.out.rs j hlj
                subst e7
                obtain ⟨y, hy⟩ : ∃ y, s.getD j z33 = y := ⟨_, rfl⟩
                rw [hy] at y0 y1 y2 y3
                obtain ⟨b, hb⟩ : ∃ b, ((s.take j).any fun y => y.f0 == x.f0) = b := ⟨_, rfl⟩
                have HBN := Aside0.mk (show ((s.take (j + 1)).any fun y => y.f0 == x.f0) = (b || (y.f0 == x.f0)) by
                  have e1 : s[j] = y := by rw [← hy, List.getD_eq_getElem?_getD, List.getElem?_eq_getElem hlj]; rfl
                  rw [List.take_succ_eq_append_getElem hlj, List.any_append, hb, e1]; simp)
                rw [hb]
                clear hy hb
                go_upto_region 29 with fail
                have HB3 := Aside0.mk (HB2.out.step (below_alloc (Below.refl _ _) (.cells #[.int .i64 y.f0, .int .i64 y.f1, .int .i64 y.f2, .int .i64 y.f3] 33)))
                have HX3 := Aside0.mk (HX2.out.below (below_alloc (Below.refl _ _) (.cells #[.int .i64 y.f0, .int .i64 y.f1, .int .i64 y.f2, .int .i64 y.f3] 33)))
                have HY3 := Aside0.mk (show BS (wr.alloc (.cells #[.int .i64 y.f0, .int .i64 y.f1, .int .i64 y.f2, .int .i64 y.f3] 33)) wr.heap.size y from blk_new _ _)
                obtain ⟨gy, hgy⟩ : ∃ gy, wr.heap.size = gy := ⟨_, rfl⟩
                obtain ⟨w3, h3⟩ : ∃ w3, wr.alloc (.cells #[.int .i64 y.f0, .int .i64 y.f1, .int .i64 y.f2, .int .i64 y.f3] 33) = w3 := ⟨_, rfl⟩
                rw [h3] at HB3 HX3 HY3 ⊢
                rw [hgy] at HY3
                simp only [hgy]
                clear h3 hgy y0 y1 y2 y3 HB2 HX2
                have yc := HY3.out.cells.1
                have xc := HX3.out.cells.1
                cases b
                · go_wp2_with fail
                  go_roundg (s.length - (j + 1))
                  case measure => omega
                  case rel => exact ⟨j + 1, by omega, by omega, by rw [HBN.out]; rfl, by go_num, HB3, HX3⟩
                · go_wp2_with fail
                  go_roundg (s.length - (j + 1))
                  case measure => omega
                  case rel => exact ⟨j + 1, by omega, by omega, by rw [HBN.out]; rfl, by go_num, HB3, HX3⟩
              · have hjs : j = s.length := by omega
                have e : ((s.take j).any fun y => y.f0 == x.f0) = true := by rw [hjs, List.take_length]; exact HANY.out
                rw [e]
                clear e
                go_wp2_with fail
                go_roundg (l.length - (k + 1))
                case measure => omega
                case rel => exact ⟨k + 1, by omega, by omega, by go_num, HB2⟩
          · go_wp2_with fail
            go_ret
            exact ⟨rfl, HB.out.x.b⟩
end Go.Proofs.Ytmjdeejccmcpnaa.Q
