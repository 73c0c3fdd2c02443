/- line: the walk. -/
import Derived.Test.YtmjdeejccmcpnabDoorG0
import Derived.StillTailTactics
namespace Go.Proofs.YtmjdeejccmcpnabDoor.Q
open Go.RowKit Go.Proofs.YtmjdeejccmcpnabDoorW.PrintWords Go.Proofs.YtmjdeejccmcpnabDoorW.PrintLast Go.Proofs.YtmjdeejccmcpnabDoorW.PrintMore
set_option linter.unusedVariables false
set_option linter.unusedSimpArgs false
def l0 (s : ByteArray) (st : Rdr) : LS := ⟨s, -1, ⟨#[]⟩, { st with b0 := false, b1 := false, b2 := false, b3 := false, k := ⟨#[]⟩ }⟩
theorem Utf8Tabs_belowB {r B : Nat} {w w' : World} (h : Lib.Utf8Tabs 2 3 w) (h3 : 3 < B ∧ 3 < r) (hb : Fr r B w w') : Lib.Utf8Tabs 2 3 w' :=
  ⟨fun c hc => (hb.cell (p := ⟨2, c, none⟩) (by show 2 < B; omega) (by show 2 ≠ r; omega)).trans (h.1 c hc), fun i hi => ⟨(hb.cell (p := ⟨3, 2 * i, none⟩) h3.1 (by show 3 ≠ r; omega)).trans (h.2 i hi).1, (hb.cell (p := ⟨3, 2 * i + 1, none⟩) h3.1 (by show 3 ≠ r; omega)).trans (h.2 i hi).2⟩⟩
theorem togS_zero {l : List UInt8} {st : Rdr} (h : togN l = 0) : togS l st = st := by
  unfold togN at h
  unfold togS
  repeat' split at h
  all_goals first | omega | simp_all
theorem tl_tl (s : ByteArray) (n : Nat) : (s.extract 1 s.size).extract n (s.size - 1) = tl (tl s 1) n := by
  have h : (s.extract 1 s.size).size = s.size - 1 := tl_size s 1
  show _ = (s.extract 1 s.size).extract n (s.extract 1 s.size).size
  rw [h]
set_option maxHeartbeats 4000000 in
set_option maxRecDepth 100000 in
theorem line_ok (B : Nat) (r : Nat) (st : Rdr) (s : ByteArray) (w : World) (hT : Tgl w) (hU : Lib.Utf8Tabs 2 3 w) (hR : RdE B w r st) (hB : B ≤ w.heap.size) (h3 : 3 < B ∧ 3 < r) (M : Nat) (hM : M ≤ 1000000000) (ho : st.o.length + s.size ≤ M) (hl : st.l.length + s.size ≤ M) :
    Calls Tryd.prog 12 #[.pointer (some ⟨r, 0, none⟩), .string s] w fun e w' => e = .returned (.tuple #[]) ∧ RdE B w' r (fin (l0 s st)).st ∧ Fr r B w w' := by
  have HT := Aside0.mk hT
  have HU := Aside0.mk hU
  have HB := Aside0.mk hB
  have H3 := Aside0.mk h3
  have HLI := Aside0.mk (show LI M (l0 s st) from ⟨.inl rfl, ho, hl⟩)
  obtain ⟨vo, vl, hRV⟩ := hR
  have HR := Aside0.mk hRV
  have r2 := (blk_cell hRV.h 2).trans rfl
  have f2 := hRV.frozen 2
  have f3 := hRV.frozen 3
  have f4 := hRV.frozen 4
  have f5 := hRV.frozen 5
  have f6 := hRV.frozen 6
  obtain ⟨_, _, r2, r3, r4, r5, r6⟩ := hRV.cells
  clear hT hU hB h3 ho hl hRV
  go_enter Tryd.func12, Tryd.ntmps12
  go_upto_region 1 with fail
  have HR0 := Aside0.mk (show RdV B (((((w.setCell ⟨r, 2, none⟩ (.bool false)).setCell ⟨r, 3, none⟩ (.bool false)).setCell ⟨r, 4, none⟩ (.bool false)).setCell ⟨r, 5, none⟩ (.bool false)).setCell ⟨r, 6, none⟩ (.string ⟨#[]⟩)) r vo vl (l0 s st).st from
    ((((HR.out.set 2 (.bool false) { st with b0 := false } rfl rfl rfl).set 3 (.bool false) { st with b0 := false, b1 := false } rfl rfl rfl).set 4 (.bool false) { st with b0 := false, b1 := false, b2 := false } rfl rfl rfl).set 5 (.bool false) { st with b0 := false, b1 := false, b2 := false, b3 := false } rfl rfl rfl).set 6 (.string ⟨#[]⟩) (l0 s st).st rfl rfl rfl)
  have HW0 := Aside0.mk (show Fr r B w (((((w.setCell ⟨r, 2, none⟩ (.bool false)).setCell ⟨r, 3, none⟩ (.bool false)).setCell ⟨r, 4, none⟩ (.bool false)).setCell ⟨r, 5, none⟩ (.bool false)).setCell ⟨r, 6, none⟩ (.string ⟨#[]⟩)) from
    (((((Fr.refl r B w).setCell (p := ⟨r, 2, none⟩) rfl _).setCell (p := ⟨r, 3, none⟩) rfl _).setCell (p := ⟨r, 4, none⟩) rfl _).setCell (p := ⟨r, 5, none⟩) rfl _).setCell (p := ⟨r, 6, none⟩) rfl _)
  clear HR r2 r3 r4 r5 r6 f2 f3 f4 f5 f6
  obtain ⟨w0, h0⟩ : ∃ w0, (((((w.setCell ⟨r, 2, none⟩ (.bool false)).setCell ⟨r, 3, none⟩ (.bool false)).setCell ⟨r, 4, none⟩ (.bool false)).setCell ⟨r, 5, none⟩ (.bool false)).setCell ⟨r, 6, none⟩ (.string ⟨#[]⟩)) = w0 := ⟨_, rfl⟩
  rw [h0] at HR0 HW0 ⊢
  clear h0
  go_wp2_with fail
  go_loopg [1, 4, 5] s.size (fun gk v1 v4 v5 wr => ∃ (x : LS), x.s.size ≤ gk ∧ fin x = fin (l0 s st) ∧ v1 = .string x.s ∧ v4 = .int .i64 x.stop ∧ v5 = .string x.af ∧ Aside0 (LI M x) ∧ Aside0 (RdE B wr r x.st) ∧ Aside0 (Fr r B w wr))
  case atStart => exact ⟨l0 s st, Nat.le_refl _, rfl, rfl, rfl, rfl, HLI, ⟨_, _, HR0.out⟩, HW0⟩
  case round =>
    clear HR0 HW0 HLI
    obtain ⟨x, hgk, hx, rfl, rfl, rfl, HI, HRE, HW⟩ := hrel
    have HX := Aside0.mk hx
    clear hx
    obtain ⟨vo, vl, hRV⟩ := HRE.out
    have HR := Aside0.mk hRV
    clear hRV HRE
    obtain ⟨xs, stop, af, xt⟩ := x
    simp only at hgk ⊢
    by_cases h0 : xs.size = 0
    · have hb1 : xs.toList.isEmpty = true := by rw [str_empty]; exact decide_eq_true h0
      have HZ := Aside0.mk h0
      clear h0
      go_wp2_with fail
      go_end0
      exact ⟨rfl, by rw [← HX.out, fin_done _ HZ.out]; exact ⟨_, _, HR.out⟩, HW.out⟩
    · have hb1 : xs.toList.isEmpty = false := by rw [str_empty]; exact decide_eq_false h0
      have hpos : 0 < xs.size := by omega
      clear h0
      have HST := Aside0.mk (HI.out.step hpos)
      have HFS := Aside0.mk (fin_step HI.out hpos)
      by_cases hst : (xs.size : Int) = stop
      · have hsb : ((xs.size : Int) == stop) = true := beq_iff_eq.2 hst
        have HEQ := Aside0.mk (show lstep ⟨xs, stop, af, xt⟩ = ⟨af, -1, af, { xt with k := ⟨#[]⟩ }⟩ from if_pos hst)
        clear hst
        have r6 : wr.cell? ⟨r, 6, none⟩ = some (.string xt.k) := HR.out.cells.2.2.2.2.2.2
        have f6 := HR.out.frozen 6
        have HR5 := Aside0.mk (HR.out.set 6 (.string ⟨#[]⟩) { xt with k := ⟨#[]⟩ } rfl rfl rfl)
        have HW5 := Aside0.mk (HW.out.setCell (p := ⟨r, 6, none⟩) rfl (.string ⟨#[]⟩))
        go_wp2_with fail
        go_roundg (af.size)
        case measure => have := HST.out.2; rw [HEQ.out] at this; simp only at this; omega
        case rel => exact ⟨⟨af, -1, af, { xt with k := ⟨#[]⟩ }⟩, Nat.le_refl _, by rw [← HEQ.out, HFS.out, HX.out], rfl, rfl, rfl, ⟨by rw [← HEQ.out]; exact HST.out.1⟩, ⟨_, _, HR5.out⟩, HW5⟩
      · have hsb : ((xs.size : Int) == stop) = false := beq_eq_false_iff_ne.2 hst
        have HNS := Aside0.mk hst
        clear hst
        have HTc := Aside0.mk (HT.out.belowB (by have := H3.out; omega) HW.out)
        have HUc := Aside0.mk (Utf8Tabs_belowB HU.out H3.out HW.out)
        have HBc := Aside0.mk (Nat.le_trans HB.out HW.out.size)
        have HC := Aside0.mk (hd_at xs hpos)
        obtain ⟨c, hc⟩ : ∃ c, ((xs[0]'hpos).toNat : Int) = c := ⟨_, rfl⟩
        have HCB := Aside0.mk (show (hd xs : Int) = c by rw [HC.out]; exact hc)
        have q0 : ((0 : Int) < (xs.size : Int)) = True := eq_true (by omega)
        have s1 : (1 : Int) ≤ (xs.size : Int) := by omega
        by_cases hesc : hd xs = 92 ∧ 1 < xs.size
        · have cb : (c == 92) = true := beq_iff_eq.2 (by have := HCB.out; omega)
          have hl1 : decide ((1 : Int) < (xs.size : Int)) = true := decide_eq_true (by omega)
          have HEQ := Aside0.mk (show lstep ⟨xs, stop, af, xt⟩ = chStep ⟨xs, stop, af, xt⟩ (tl xs 1) by unfold lstep; rw [if_neg HNS.out, if_pos hesc])
          have hn3 : (Lib.decodeGo (tl xs 1)).2 ≤ xs.size - 1 := by have := dec_size (tl xs 1); rwa [tl_size] at this
          clear hesc
          go_wp2_with (go_at_call 25; refine (char_ok B r vo vl xt (tl xs 1) _ HTc.out HUc.out HR.out HBc.out (by have := H3.out; omega) (by have := HI.out.o; have := HI.out.l; simp only at *; omega) (dec_rune _)).mono ?_; rintro e w5 ⟨rfl, hR5, hW5⟩; have HR5 := Aside0.mk hR5; have HW5 := Aside0.mk (HW.out.trans hW5); clear hR5 hW5)
          go_roundg ((tl (tl xs 1) (Lib.decodeGo (tl xs 1)).2).size)
          case measure => have := HST.out.2; rw [HEQ.out] at this; have h2 : (tl (tl xs 1) (Lib.decodeGo (tl xs 1)).2).size < xs.size := this; omega
          case rel => exact ⟨chStep ⟨xs, stop, af, xt⟩ (tl xs 1), Nat.le_refl _, by rw [← HEQ.out, HFS.out, HX.out], by rw [tl_tl]; rfl, rfl, rfl, ⟨by rw [← HEQ.out]; exact HST.out.1⟩, HR5, HW5⟩
        · have HESC := Aside0.mk hesc
          go_upto_region 6 with fail
          go_cut [35] (fun v35 wc => v35 = .bool false ∧ wc = wr)
          case first =>
            by_cases h92 : c = 92
            · have cb : (c == 92) = true := beq_iff_eq.2 h92
              have hl1 : decide ((1 : Int) < (xs.size : Int)) = false := decide_eq_false (by have := HESC.out; have := HCB.out; omega)
              clear hesc h92
              go_wp2_with fail
              go_meet
              case rel => exact ⟨rfl, rfl⟩
            · have cb : (c == 92) = false := beq_eq_false_iff_ne.2 h92
              clear hesc h92
              go_wp2_with fail
              go_meet
              case rel => exact ⟨rfl, rfl⟩
          case rest =>
            obtain ⟨rfl, rfl⟩ := hcut
            clear hesc
            go_upto_region 10 with (go_at_call 26; refine (toggle_ok B r vo vl xt xs _ HTc.out HR.out HBc.out).mono ?_; rintro e w5 ⟨rfl, hR5, hW5⟩; have HR5 := Aside0.mk hR5; have HW5 := Aside0.mk (HW.out.trans hW5); clear hR5 hW5)
            by_cases htog : 0 < togN xs.data.toList
            · have htb : decide ((0 : Int) < (togN xs.data.toList : Int)) = true := decide_eq_true (by omega)
              have HEQ := Aside0.mk (show lstep ⟨xs, stop, af, xt⟩ = ⟨tl xs (togN xs.data.toList), stop, af, togS xs.data.toList xt⟩ by unfold lstep; rw [if_neg HNS.out, if_neg HESC.out, if_pos htog])
              have hn3 : togN xs.data.toList ≤ xs.size := by have := togN_le xs.data.toList; rwa [← size_list] at this
              go_wp2_with fail
              go_roundg ((tl xs (togN xs.data.toList)).size)
              case measure => have := HST.out.2; rw [HEQ.out] at this; have h2 : (tl xs (togN xs.data.toList)).size < xs.size := this; omega
              case rel => exact ⟨⟨tl xs (togN xs.data.toList), stop, af, togS xs.data.toList xt⟩, Nat.le_refl _, by rw [← HEQ.out, HFS.out, HX.out], rfl, rfl, rfl, ⟨by rw [← HEQ.out]; exact HST.out.1⟩, ⟨_, _, HR5.out⟩, HW5⟩
            · have ht0 : togN xs.data.toList = 0 := by omega
              have htb : decide ((0 : Int) < (togN xs.data.toList : Int)) = false := decide_eq_false (by omega)
              have HTS := Aside0.mk (show togS xs.data.toList xt = xt from togS_zero ht0)
              have HT0 := Aside0.mk ht0
              have HNT := Aside0.mk htog
              clear htog
              rw [HTS.out] at HR5
              rw [ht0] at htb ⊢
              clear ht0
              have HSZ := Aside0.mk (show (xs.extract 1 xs.size).size ≤ xs.size ∧ xs.size ≤ M from ⟨by have := tl_size xs 1; unfold tl at this; omega, by have := HI.out.o; simp only at this; omega⟩)
              by_cases h91 : hd xs = 91
              · have cb1 : (c == 91) = true := beq_iff_eq.2 (by have := HCB.out; omega)
                have r6 : w5.cell? ⟨r, 6, none⟩ = some (.string xt.k) := HR5.out.cells.2.2.2.2.2.2
                have f6 := HR5.out.frozen 6
                by_cases hk0 : xt.k.size = 0
                · have hkb : xt.k.toList.isEmpty = true := by rw [str_empty]; exact decide_eq_true hk0
                  have HTV := Aside0.mk (show targetV (xs.extract 1 xs.size).data.toList = targetV (xs.data.toList.drop 1) by rw [ext_list])
                  have HLK0 := Aside0.mk (show lnk xs xt = (match targetO (xs.data.toList.drop 1) with | some (b, a, e) => if 0 < b.length then some (b, a, e) else none | none => none) by unfold lnk; rw [if_pos ⟨h91, hk0⟩]; rfl)
                  clear h91 hk0
                  cases hto : targetO (xs.data.toList.drop 1) with
                  | none =>
                    have HLK := Aside0.mk (show lnk xs xt = none by rw [HLK0.out, hto])
                    have HTV := Aside0.mk (show targetV (xs.extract 1 xs.size).data.toList = .tuple #[.string ⟨#[]⟩, .int .i64 0, .int .i64 0, .bool false] by rw [HTV.out]; unfold targetV; rw [hto])
                    clear hto
                    have HEQ := Aside0.mk (show lstep ⟨xs, stop, af, xt⟩ = chStep ⟨xs, stop, af, xt⟩ xs by unfold lstep; rw [if_neg HNS.out, if_neg HESC.out, if_neg HNT.out]; simp only [HLK.out])
                    have hn3 : (Lib.decodeGo xs).2 ≤ xs.size := dec_size xs
                    go_wp2_with (first | (go_at_call 27; refine (target_ok (xs.extract 1 xs.size) _ (by have := HSZ.out; omega)).mono ?_; rw [HTV.out]; rintro e w6 ⟨rfl, hb6⟩; have HR6 := Aside0.mk (HR5.out.below hb6); have HW6 := Aside0.mk (HW5.out.trans (Fr.of hb6 (Nat.le_trans HB.out HW5.out.size))); clear hb6) | (go_at_call 25; refine (char_ok B r vo vl xt xs _ (HT.out.belowB (by have := H3.out; omega) HW6.out) (Utf8Tabs_belowB HU.out H3.out HW6.out) HR6.out (Nat.le_trans HB.out HW6.out.size) (by have := H3.out; omega) (by have := HI.out.o; have := HI.out.l; simp only at *; omega) (dec_rune _)).mono ?_; rintro e w7 ⟨rfl, hR7, hW7⟩; have HR7 := Aside0.mk hR7; have HW7 := Aside0.mk (HW6.out.trans hW7); clear hR7 hW7))
                    go_roundg ((tl xs (Lib.decodeGo xs).2).size)
                    case measure => have := HST.out.2; rw [HEQ.out] at this; have h2 : (tl xs (Lib.decodeGo xs).2).size < xs.size := this; omega
                    case rel => exact ⟨chStep ⟨xs, stop, af, xt⟩ xs, Nat.le_refl _, by rw [← HEQ.out, HFS.out, HX.out], rfl, rfl, rfl, ⟨by rw [← HEQ.out]; exact HST.out.1⟩, HR7, HW7⟩
                  | some p =>
                    obtain ⟨b, a, e⟩ := p
                    have HTV := Aside0.mk (show targetV (xs.extract 1 xs.size).data.toList = .tuple #[.string ⟨b.toArray⟩, .int .i64 (a : Int), .int .i64 (e : Int), .bool (decide (0 < b.length))] by rw [HTV.out]; unfold targetV; rw [hto])
                    have hae := target_lt hto
                    rw [List.length_drop, ← size_list] at hae
                    by_cases hbl : 0 < b.length
                    · have hbb : decide (0 < b.length) = true := decide_eq_true hbl
                      have HLK := Aside0.mk (show lnk xs xt = some (b, a, e) by rw [HLK0.out, hto]; exact if_pos hbl)
                      have HEQ := Aside0.mk (show lstep ⟨xs, stop, af, xt⟩ = ⟨tl xs 1, (xs.size : Int) - 1 - (a : Int), tl xs (1 + e), { xt with k := ⟨b.toArray⟩ }⟩ by unfold lstep; rw [if_neg HNS.out, if_neg HESC.out, if_neg HNT.out]; simp only [HLK.out])
                      rw [hbb] at HTV
                      clear hto hbl hbb
                      go_upto_region 15 with (go_at_call 27; refine (target_ok (xs.extract 1 xs.size) _ (by have := HSZ.out; omega)).mono ?_; rw [HTV.out]; rintro e w6 ⟨rfl, hb6⟩; have HR6 := Aside0.mk (HR5.out.below hb6); have HW6 := Aside0.mk (HW5.out.trans (Fr.of hb6 (Nat.le_trans HB.out HW5.out.size))); clear hb6)
                      have hae2 : 1 + e ≤ xs.size := by omega
                      have hae4 : (0 : Int) ≤ 1 + (e : Int) := by omega
                      have hae3 : (1 : Int) + (e : Int) ≤ (xs.size : Int) := by omega
                      have r6 : w6.cell? ⟨r, 6, none⟩ = some (.string xt.k) := HR6.out.cells.2.2.2.2.2.2
                      have f6 := HR6.out.frozen 6
                      have hw1 : IntKind.i64.wrap (1 + (e : Int)) = ((1 + e : Nat) : Int) := by rw [IntKind.wrap_i64]; have := HSZ.out.2; omega
                      have HR7 := Aside0.mk (HR6.out.drewN 1)
                      have HW7 := Aside0.mk HW6.out.drew
                      change Aside0 (RdV B w6.drew r vo vl xt) at HR7
                      have r6 : w6.drew.cell? ⟨r, 6, none⟩ = some (.string xt.k) := HR7.out.cells.2.2.2.2.2.2
                      have f6 : w6.drew.frozen? ⟨r, 6, none⟩ = false := HR7.out.frozen 6
                      have HR8 := Aside0.mk (HR7.out.set 6 (.string ⟨b.toArray⟩) { xt with k := ⟨b.toArray⟩ } rfl rfl rfl)
                      have HW8 := Aside0.mk (HW7.out.setCell (p := ⟨r, 6, none⟩) rfl (.string ⟨b.toArray⟩))
                      have hsm : xs.size ≤ 1000000000 := by have := HSZ.out.2; omega
                      refine start_ (n := 10) (S := fun w' => True) (ds := [8]) #[false, false, false, false, false, false, false, false, false, false] (by kernel_rfl) rfl rfl trivial (fun hHeld => ?_)
                      refine pure_ (i := 0) (N := some 70) (v := ?_) (a' := ?_) #[true, false, false, false, false, false, false, false, false, false] rfl rfl (by kernel_rfl) (fun _ _ _ h => h) (Or.inl ⟨by rfl, ?_⟩) ?_ ?_
                      rotate_left
                      · intro w'
                        go_simp
                        with_reducible rfl
                      rotate_left
                      · simp only [Act.put, List.setIfInBounds_toArray, List.set_cons_zero, List.set_cons_succ, i64_w, i32_w]
                        rfl
                      refine pure_ (i := 1) (N := some 71) (v := ?_) (a' := ?_) #[true, true, false, false, false, false, false, false, false, false] rfl rfl (by kernel_rfl) (fun _ _ _ h => h) (Or.inl ⟨by rfl, ?_⟩) ?_ ?_
                      rotate_left
                      · intro w'
                        go_simp
                        with_reducible rfl
                      rotate_left
                      · simp only [Act.put, List.setIfInBounds_toArray, List.set_cons_zero, List.set_cons_succ, i64_w, i32_w]
                        rfl
                      refine pure_ (i := 2) (N := some 72) (v := ?_) (a' := ?_) #[true, true, true, false, false, false, false, false, false, false] rfl rfl (by kernel_rfl) (fun _ _ _ h => h) (Or.inl ⟨by rfl, ?_⟩) ?_ ?_
                      rotate_left
                      · intro w'
                        go_simp
                        with_reducible rfl
                      rotate_left
                      · simp only [Act.put, List.setIfInBounds_toArray, List.set_cons_zero, List.set_cons_succ, i64_w, i32_w]
                        rfl
                      refine pure_ (i := 3) (N := some 73) (v := ?_) (a' := ?_) #[true, true, true, true, false, false, false, false, false, false] rfl rfl (by kernel_rfl) (fun _ _ _ h => h) (Or.inl ⟨by rfl, ?_⟩) ?_ ?_
                      rotate_left
                      · intro w'
                        go_simp
                        with_reducible rfl
                      rotate_left
                      · simp only [Act.put, List.setIfInBounds_toArray, List.set_cons_zero, List.set_cons_succ, i64_w, i32_w]
                        rfl
                      refine pure_ (i := 4) (N := some 74) (v := ?_) (a' := ?_) #[true, true, true, true, true, false, false, false, false, false] rfl rfl (by kernel_rfl) (fun _ _ _ h => h) (Or.inl ⟨by rfl, ?_⟩) ?_ ?_
                      rotate_left
                      · intro w'
                        go_simp
                        with_reducible rfl
                      rotate_left
                      · simp only [Act.put, List.setIfInBounds_toArray, List.set_cons_zero, List.set_cons_succ, i64_w, i32_w]
                        rfl
                      refine pure_ (i := 5) (N := some 75) (v := ?_) (a' := ?_) #[true, true, true, true, true, true, false, false, false, false] rfl rfl (by kernel_rfl) (fun _ _ _ h => h) (Or.inl ⟨by rfl, ?_⟩) ?_ ?_
                      rotate_left
                      · intro w'
                        go_simp
                        with_reducible rfl
                      rotate_left
                      · simp only [Act.put, List.setIfInBounds_toArray, List.set_cons_zero, List.set_cons_succ, i64_w, i32_w]
                        rfl
                      refine pure_ (i := 6) (N := some 76) (v := ?_) (a' := ?_) #[true, true, true, true, true, true, true, false, false, false] rfl rfl (by kernel_rfl) (fun _ _ _ h => h) (Or.inl ⟨by rfl, ?_⟩) ?_ ?_
                      rotate_left
                      · intro w'
                        go_simp
                        with_reducible rfl
                      rotate_left
                      · simp only [Act.put, List.setIfInBounds_toArray, List.set_cons_zero, List.set_cons_succ, i64_w, i32_w]
                        rfl
                      refine pure_ (i := 7) (N := some 77) (v := ?_) (a' := ?_) #[true, true, true, true, true, true, true, true, false, false] rfl rfl (by kernel_rfl) (fun _ _ _ h => h) (Or.inl ⟨by rfl, ?_⟩) ?_ ?_
                      rotate_left
                      · intro w'
                        go_simp
                        with_reducible rfl
                      rotate_left
                      · simp only [Act.put, List.setIfInBounds_toArray, List.set_cons_zero, List.set_cons_succ, i64_w, i32_w]
                        rfl
                      refine last_ (i := 8) (N := none) #[true, true, true, true, true, true, true, true, true, false] rfl rfl (by kernel_rfl) (by decide) (fun K hK => ?_)
                      refine skip_ (w1 := ?_) (by rfl) rfl ?_ ?_
                      rotate_left
                      · go_simp
                        rfl
                      refine hK.out _ _ ?_
                      clear hK K
                      refine pure_ (i := 9) (N := some 5) (v := ?_) (a' := ?_) #[true, true, true, true, true, true, true, true, true, true] rfl rfl (by kernel_rfl) (fun _ _ _ h => h) (Or.inl ⟨by rfl, ?_⟩) ?_ ?_
                      rotate_left
                      · intro w'
                        go_simp
                        with_reducible rfl
                      rotate_left
                      · simp only [Act.put, List.setIfInBounds_toArray, List.set_cons_zero, List.set_cons_succ, i64_w, i32_w]
                        rfl
                      refine done_ (by kernel_rfl) ?_
                      go_wp2_with fail
                      go_roundg ((tl xs 1).size)
                      case measure => have := HST.out.2; rw [HEQ.out] at this; have h2 : (tl xs 1).size < xs.size := this; omega
                      case rel => exact ⟨⟨tl xs 1, (xs.size : Int) - 1 - (a : Int), tl xs (1 + e), { xt with k := ⟨b.toArray⟩ }⟩, Nat.le_refl _, by rw [← HEQ.out, HFS.out, HX.out], rfl, by go_num, by rw [show (1 + (e : Int)).toNat = 1 + e from by omega]; rfl, ⟨by rw [← HEQ.out]; exact HST.out.1⟩, ⟨_, _, HR8.out⟩, HW8⟩
                    · have hbb : decide (0 < b.length) = false := decide_eq_false hbl
                      have HLK := Aside0.mk (show lnk xs xt = none by rw [HLK0.out, hto]; exact if_neg hbl)
                      rw [hbb] at HTV
                      clear hto hbl hbb
                      have HEQ := Aside0.mk (show lstep ⟨xs, stop, af, xt⟩ = chStep ⟨xs, stop, af, xt⟩ xs by unfold lstep; rw [if_neg HNS.out, if_neg HESC.out, if_neg HNT.out]; simp only [HLK.out])
                      have hn3 : (Lib.decodeGo xs).2 ≤ xs.size := dec_size xs
                      go_wp2_with (first | (go_at_call 27; refine (target_ok (xs.extract 1 xs.size) _ (by have := HSZ.out; omega)).mono ?_; rw [HTV.out]; rintro e w6 ⟨rfl, hb6⟩; have HR6 := Aside0.mk (HR5.out.below hb6); have HW6 := Aside0.mk (HW5.out.trans (Fr.of hb6 (Nat.le_trans HB.out HW5.out.size))); clear hb6) | (go_at_call 25; refine (char_ok B r vo vl xt xs _ (HT.out.belowB (by have := H3.out; omega) HW6.out) (Utf8Tabs_belowB HU.out H3.out HW6.out) HR6.out (Nat.le_trans HB.out HW6.out.size) (by have := H3.out; omega) (by have := HI.out.o; have := HI.out.l; simp only at *; omega) (dec_rune _)).mono ?_; rintro e w7 ⟨rfl, hR7, hW7⟩; have HR7 := Aside0.mk hR7; have HW7 := Aside0.mk (HW6.out.trans hW7); clear hR7 hW7))
                      go_roundg ((tl xs (Lib.decodeGo xs).2).size)
                      case measure => have := HST.out.2; rw [HEQ.out] at this; have h2 : (tl xs (Lib.decodeGo xs).2).size < xs.size := this; omega
                      case rel => exact ⟨chStep ⟨xs, stop, af, xt⟩ xs, Nat.le_refl _, by rw [← HEQ.out, HFS.out, HX.out], rfl, rfl, rfl, ⟨by rw [← HEQ.out]; exact HST.out.1⟩, HR7, HW7⟩
                · have hkb : xt.k.toList.isEmpty = false := by rw [str_empty]; exact decide_eq_false hk0
                  have HLK := Aside0.mk (show lnk xs xt = none by unfold lnk; rw [if_neg (fun h => hk0 h.2)])
                  clear h91 hk0
                  have HEQ := Aside0.mk (show lstep ⟨xs, stop, af, xt⟩ = chStep ⟨xs, stop, af, xt⟩ xs by unfold lstep; rw [if_neg HNS.out, if_neg HESC.out, if_neg HNT.out]; simp only [HLK.out])
                  have hn3 : (Lib.decodeGo xs).2 ≤ xs.size := dec_size xs
                  go_wp2_with (go_at_call 25; refine (char_ok B r vo vl xt xs _ (HT.out.belowB (by have := H3.out; omega) HW5.out) (Utf8Tabs_belowB HU.out H3.out HW5.out) HR5.out (Nat.le_trans HB.out HW5.out.size) (by have := H3.out; omega) (by have := HI.out.o; have := HI.out.l; simp only at *; omega) (dec_rune _)).mono ?_; rintro e w7 ⟨rfl, hR7, hW7⟩; have HR7 := Aside0.mk hR7; have HW7 := Aside0.mk (HW5.out.trans hW7); clear hR7 hW7)
                  go_roundg ((tl xs (Lib.decodeGo xs).2).size)
                  case measure => have := HST.out.2; rw [HEQ.out] at this; have h2 : (tl xs (Lib.decodeGo xs).2).size < xs.size := this; omega
                  case rel => exact ⟨chStep ⟨xs, stop, af, xt⟩ xs, Nat.le_refl _, by rw [← HEQ.out, HFS.out, HX.out], rfl, rfl, rfl, ⟨by rw [← HEQ.out]; exact HST.out.1⟩, HR7, HW7⟩
              · have cb1 : (c == 91) = false := beq_eq_false_iff_ne.2 (by have := HCB.out; omega)
                have HLK := Aside0.mk (show lnk xs xt = none by unfold lnk; rw [if_neg (fun h => h91 h.1)])
                clear h91
                have HEQ := Aside0.mk (show lstep ⟨xs, stop, af, xt⟩ = chStep ⟨xs, stop, af, xt⟩ xs by unfold lstep; rw [if_neg HNS.out, if_neg HESC.out, if_neg HNT.out]; simp only [HLK.out])
                have hn3 : (Lib.decodeGo xs).2 ≤ xs.size := dec_size xs
                go_wp2_with (go_at_call 25; refine (char_ok B r vo vl xt xs _ (HT.out.belowB (by have := H3.out; omega) HW5.out) (Utf8Tabs_belowB HU.out H3.out HW5.out) HR5.out (Nat.le_trans HB.out HW5.out.size) (by have := H3.out; omega) (by have := HI.out.o; have := HI.out.l; simp only at *; omega) (dec_rune _)).mono ?_; rintro e w7 ⟨rfl, hR7, hW7⟩; have HR7 := Aside0.mk hR7; have HW7 := Aside0.mk (HW5.out.trans hW7); clear hR7 hW7)
                go_roundg ((tl xs (Lib.decodeGo xs).2).size)
                case measure => have := HST.out.2; rw [HEQ.out] at this; have h2 : (tl xs (Lib.decodeGo xs).2).size < xs.size := this; omega
                case rel => exact ⟨chStep ⟨xs, stop, af, xt⟩ xs, Nat.le_refl _, by rw [← HEQ.out, HFS.out, HX.out], rfl, rfl, rfl, ⟨by rw [← HEQ.out]; exact HST.out.1⟩, HR7, HW7⟩
end Go.Proofs.YtmjdeejccmcpnabDoor.Q
