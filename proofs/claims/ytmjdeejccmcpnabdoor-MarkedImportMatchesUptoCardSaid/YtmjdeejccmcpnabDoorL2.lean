/- Marked: the walk. -/
import Derived.Test.YtmjdeejccmcpnabDoorL1
namespace Go.Proofs.YtmjdeejccmcpnabDoor.Q
open Go.RowKit Go.Proofs.YtmjdeejccmcpnabDoorW.PrintWords Go.Proofs.YtmjdeejccmcpnabDoorW.PrintLast Go.Proofs.YtmjdeejccmcpnabDoorW.PrintMore
set_option linter.unusedVariables false
set_option linter.unusedSimpArgs false
theorem pre_byte (s : ByteArray) (p : UInt8) (r : List UInt8) (h : Lib.hasPrefix s.data.toList (p :: r) = true) : ∃ h0 : 0 < s.size, (s[0]'h0).toNat = p.toNat := by
  have h1 := pre_len h
  rw [List.length_cons, ← size_list] at h1
  have h0 : 0 < s.size := by omega
  refine ⟨h0, ?_⟩
  have h2 := drop_cons s 0 h0
  rw [List.drop_zero] at h2
  rw [h2] at h
  unfold Lib.hasPrefix at h
  rw [List.isPrefixOf_iff_prefix, List.cons_prefix_cons] at h
  rw [h.1]
theorem tl_tl2 (s : ByteArray) (a b : Nat) : (tl s a).extract b (tl s a).size = tl s (a + b) := by
  refine ba_ext ?_
  rw [ext_list, tl_list, tl_list, List.drop_drop]
theorem span35n (s : ByteArray) (n : Nat) (h : cnt s.data.toList 35 = n) (w : World) (hs : s.size ≤ 1048576) : Calls Tryd.prog 14 #[.string s, .func (.func 15) #[] #[]] w fun e w' => e = .returned (.int .i64 (n : Int)) ∧ w' = w := by subst h; exact span35 s w hs
theorem span32n (s : ByteArray) (n : Nat) (h : cnt s.data.toList 32 = n) (w : World) (hs : s.size ≤ 1048576) : Calls Tryd.prog 14 #[.string s, .func (.func 16) #[] #[]] w fun e w' => e = .returned (.int .i64 (n : Int)) ∧ w' = w := by subst h; exact span32 s w hs
/-- the lines in memory, in a block of their own kind -/
def LnB (w : World) (a : Addr) (ls : List ByteArray) : Prop := Ln w a ls ∧ ∃ cs, w.heap[a.block]? = some (.cells cs 9 (0, 0))
theorem LnB.below {w w' : World} {a : Addr} {ls : List ByteArray} (h : LnB w a ls) (hb : Below w.heap.size w w') : LnB w' a ls := ⟨h.1.below hb, h.2.choose, blk_below h.2.choose_spec hb⟩
theorem LnB.grown {w w' : World} {a : Addr} {ls : List ByteArray} (h : LnB w a ls) {row : Option Nat} (hg : w.grownBy w' row) (hne : some a.block ≠ row) : LnB w' a ls := by
  have e := hg.block a.block (blk_lt h.2.choose_spec) hne
  exact ⟨fun k x hx => (World.cell?_of_block (by rw [add_block0]; exact e)).trans (h.1 k x hx), h.2.choose, e.trans h.2.choose_spec⟩
theorem rows_of {α : Type} {d : Kd α} {e base : Nat} {w : World} {ok : Nat → Prop} {v : Value} {xs : List α} (h : d.R e w base ok v xs) : ∃ A c, v = .slice A xs.length c ∧ ReadsRow (d.M w base (fun k => ok k ∧ some k ≠ v.ownBlock)) d.sz w A xs.length xs := by
  obtain ⟨A, c, he, hl, hr⟩ := OwnRow.reads h.2
  exact ⟨A, c, he, hr⟩
/-- the result and the losses, and the lines, in memory -/
structure MK (B : Nat) (w W : World) (v4 v5 : Value) (st : RP) (a : Addr) (ls : List ByteArray) : Prop where
  o : Kd.R k30 30 W B (fun _ => True) v4 st.o
  l : Kd.R k38 38 W B (fun _ => True) v5 st.ls
  ln : LnB W a ls
  bl : Below w.heap.size w W
theorem MK.below {B : Nat} {w W W' : World} {v4 v5 : Value} {st : RP} {a : Addr} {ls : List ByteArray} (h : MK B w W v4 v5 st a ls) (hb : Below W.heap.size W W') : MK B w W' v4 v5 st a ls :=
  ⟨Kd.R_below h.o hb, Kd.R_below h.l hb, h.ln.below hb, h.bl.trans (hb.mono h.bl.size)⟩
set_option maxHeartbeats 16000000 in
set_option maxRecDepth 100000 in
theorem Marked_ok (tk : ByteArray → List S66) (htk : ∀ y, (tk y).length ≤ y.size) (htok : ∀ y : ByteArray, y.size ≤ 1048576 → ∃ k, chanceryref2_tokens.f k y = some (tk y)) (ks : Nat) (s : ByteArray) (ls : List ByteArray) (w : World)
    (hsp : chanceryref2_Split.f ks s 10 = some ls) (htot : tot ls ≤ 1048576) (hN1 : 1 ≤ ls.length) (hN2 : ls.length ≤ 1048577) :
    Calls Tryd.prog 6 #[.string s] w fun e w' => (∃ vo vl, e = .returned (.tuple #[vo, vl]) ∧ Kd.R k30 30 w' w.heap.size (fun _ => True) vo (rst tk (trTo ls (ls.length - 1)) (keepN ls)).o ∧ Kd.R k38 38 w' w.heap.size (fun _ => True) vl (rst tk (trTo ls (ls.length - 1)) (keepN ls)).ls) ∧ Below w.heap.size w w' := by
  have HSP := Aside0.mk hsp
  have HTK := Aside0.mk htk
  have HTOK := Aside0.mk htok
  have HTOT := Aside0.mk htot
  clear hsp htk htok htot
  obtain ⟨N, hN⟩ : ∃ N, ls.length = N := ⟨_, rfl⟩
  rw [hN] at hN1 hN2 ⊢
  have HN := Aside0.mk hN
  clear hN
  obtain ⟨K, hK⟩ : ∃ K, keepN ls = K := ⟨_, rfl⟩
  rw [hK]
  have HK := Aside0.mk (show K ≤ N ∧ (K < N → K = N - 1 ∧ 1 < N ∧ (ls.getD (N - 1) ⟨#[]⟩).size = 0) ∧ (K = N → 1 < N → (ls.getD (N - 1) ⟨#[]⟩).size ≠ 0) by
    rw [← hK]
    unfold keepN
    rw [HN.out]
    split
    · rename_i h
      exact ⟨by omega, fun _ => ⟨rfl, h.1, h.2⟩, fun h2 => by omega⟩
    · rename_i h
      exact ⟨by omega, fun h2 => by omega, fun _ h3 h4 => h ⟨h3, h4⟩⟩)
  clear hK
  obtain ⟨L, hL⟩ : ∃ L, trTo ls (N - 1) = L := ⟨_, rfl⟩
  rw [hL]
  have HLE := Aside0.mk hL
  have HLN := Aside0.mk (show L.length = N by rw [← hL, trTo_len, HN.out])
  have HTL := Aside0.mk (show tot L ≤ 1048576 by rw [← hL]; exact Nat.le_trans (tot_tr ls _) HTOT.out)
  clear hL
  go_enter Tryd.func6, Tryd.ntmps6
  go_upto_region 4 with (go_at_call 13; refine (chanceryref2_Split.calls ks s 10 ls _ HSP.out).mono ?_; rintro e w2 ⟨v, rfl, hr, hb⟩)
  obtain ⟨A, cp, rfl, hcp, hC⟩ := Kd.R_reads hr
  have HLN0 := Aside0.mk (show ∃ a, A = some a by
    obtain ⟨ad, c, e, _⟩ := Kd.C_get hC ⟨#[]⟩ 0 (Int.le_refl _) (by rw [HN.out]; omega)
    exact ⟨ad, e⟩)
  obtain ⟨a, hA⟩ := HLN0.out
  subst hA
  have HLT := Aside0.mk (show ∃ cs, w2.heap[a.block]? = some (.cells cs 9 (0, 0)) by
    obtain ⟨inner, hin⟩ := Kd.R_own hr
    rcases hin.2 with ⟨h1, _⟩ | ⟨gg, cap, cur, h1, _, h2, _⟩
    · cases h1
    · cases h1; exact ⟨cur, h2⟩)
  have HM0 := Aside0.mk (show MK w.heap.size w w2 (.slice none 0 0) (.slice none 0 0) ⟨[], []⟩ a ls from ⟨Kd.R_nil _ _ _ _ _, Kd.R_nil _ _ _ _ _, ⟨by rw [HN.out] at hC; rw [← HN.out] at hC; exact Ln.of hC, HLT.out⟩, hb⟩)
  rw [HN.out] at hcp
  simp only [HN.out]
  clear hr hb hC HLN0 HSP
  have hKN : K ≤ N := HK.out.1
  go_wp2_with fail
  go_loopg [4, 5, 19] N (fun gk v4 v5 v19 wr => ∃ j : Nat, j ≤ K ∧ N - j ≤ gk ∧ v19 = .int .i64 (j : Int) ∧ Aside0 (MK w.heap.size w wr v4 v5 (rst tk L j) a ls))
  case atStart => exact ⟨0, by omega, by omega, rfl, HM0⟩
  case round =>
    clear HM0
    obtain ⟨j, hj, hgj, rfl, HM⟩ := hrel
    by_cases hlt : j < K
    · have hjl : j < ls.length := by rw [HN.out]; omega
      have hjL : j < L.length := by rw [HLN.out]; omega
      have hjb : decide (j < N) = true := decide_eq_true (by omega)
      have hjp : ((j : Int) < (N : Int)) = True := eq_true (by omega)
      have x0 : wr.cell? (a.add j) = some (.string (ls[j]'hjl)) := HM.out.ln.1 j _ (List.getElem?_eq_getElem hjl)
      obtain ⟨z, hz⟩ : ∃ z, ls[j]'hjl = z := ⟨_, rfl⟩
      obtain ⟨x, hx⟩ : ∃ x, L[j]'hjL = x := ⟨_, rfl⟩
      rw [hz] at x0
      have HSS := Aside0.mk (show rst tk L (j + 1) = rpara tk (rst tk L j) x by rw [← hx]; exact rst_succ tk L j hjL)
      have HZL := Aside0.mk (show z.size ≤ 1048576 by have h := tot_mem ls j hjl; rw [hz] at h; have := HTOT.out; omega)
      have HXS := Aside0.mk (show x.size ≤ 1048576 by have h := tot_mem L j hjL; rw [hx] at h; have := HTL.out; omega)
      have HXM := Aside0.mk (show mxr (rst tk L j) ≤ 2097153 by have h := rst_len tk HTK.out L j; have h2 := tot_take L j; have := HTL.out; omega)
      have HLAST := Aside0.mk (show j = N - 1 → z = x ∧ (0 < j → z.size ≠ 0) by
        intro hjn
        refine ⟨?_, fun h0 => ?_⟩
        · have h1 := HLE.out
          rw [← hz, ← hx]
          have h2 := trTo_at ls j hjl
          have h3 : L[j]? = (trTo ls j)[j]? := by rw [← h1, hjn]
          rw [h2, List.getElem?_eq_getElem hjL, List.getElem?_eq_getElem hjl] at h3
          exact (Option.some.inj h3).symm
        · have h1 := HK.out.2.2 (by omega) (by omega)
          rw [← hjn, List.getD_eq_getElem?_getD, List.getElem?_eq_getElem hjl, hz] at h1
          exact h1)
      have HMID := Aside0.mk (show j < N - 1 → cut13 z = x by
        intro hjn
        have h1 := HLE.out
        have h2 : (trTo ls (N - 1))[j]? = some (cut13 ls[j]) := by
          unfold trTo
          rw [List.getElem?_append_left (by simp; omega), List.getElem?_map, List.getElem?_take_of_lt hjn, List.getElem?_eq_getElem hjl]
          rfl
        rw [h1, List.getElem?_eq_getElem hjL, hx, hz] at h2
        exact (Option.some.inj h2).symm)
      clear hz hx hjl hjL
      go_upto_if 28 with fail
      go_cut [8] (fun v8 wc => v8 = .string x ∧ wc = wr)
      case first =>
        clear x0
        by_cases hl : j = N - 1
        · have hjb1 : ((j : Int) == (N : Int) - 1) = true := beq_iff_eq.2 (by omega)
          obtain ⟨hzx, hz1⟩ := HLAST.out hl
          subst hzx
          by_cases hz0 : z.size = 0
          · have hb1 : z.toList.isEmpty = true := by rw [str_empty]; exact decide_eq_true hz0
            have hj0 : decide ((0 : Int) < (j : Int)) = false := decide_eq_false (fun h => hz1 (by omega) hz0)
            have hj1 : decide (0 < j) = false := decide_eq_false (fun h => hz1 h hz0)
            clear hl hz0 hz1
            go_wp2_with fail
            go_meet
            case rel => exact ⟨rfl, rfl⟩
          · have hb1 : z.toList.isEmpty = false := by rw [str_empty]; exact decide_eq_false hz0
            clear hl hz0 hz1
            go_wp2_with fail
            go_meet
            case rel => exact ⟨rfl, rfl⟩
        · have hjb1 : ((j : Int) == (N : Int) - 1) = false := beq_eq_false_iff_ne.2 (by omega)
          have HCX := Aside0.mk (HMID.out (by omega))
          by_cases hz0 : z.size = 0
          · have hb1 : z.toList.isEmpty = true := by rw [str_empty]; exact decide_eq_true hz0
            have HQ := Aside0.mk (show z = x by rw [← HCX.out]; exact (cut13_no z (fun h => absurd hz0 (by omega))).symm)
            clear hl hz0
            go_wp2_with fail
            go_meet
            case rel => exact ⟨by rw [HQ.out], rfl⟩
          · have hb1 : z.toList.isEmpty = false := by rw [str_empty]; exact decide_eq_false hz0
            obtain ⟨m, hm⟩ : ∃ m, z.size = m + 1 := ⟨z.size - 1, by omega⟩
            have hml : m < z.size := by omega
            have hmx : m ≤ 1048576 := by have := HZL.out; omega
            clear hl hz0
            by_cases h13 : (z[m]'hml).toNat = 13
            · have hcb : (((z[m]'hml).toNat : Int) == 13) = true := beq_iff_eq.2 (by omega)
              have HQ := Aside0.mk (show z.extract 0 m = x by
                rw [← HCX.out, cut13_yes z (by omega) (by rw [← h13]; congr 2; omega)]
                congr 1
                omega)
              clear h13
              go_wp2_with fail
              go_meet
              case rel => exact ⟨by rw [← HQ.out], rfl⟩
            · have hcb : (((z[m]'hml).toNat : Int) == 13) = false := beq_eq_false_iff_ne.2 (by omega)
              have HQ := Aside0.mk (show z = x by
                rw [← HCX.out]
                refine (cut13_no z (fun _ => ?_)).symm
                rw [show z.size - 1 = m by omega, getElem?_pos z m hml]
                exact h13)
              clear h13
              go_wp2_with fail
              go_meet
              case rel => exact ⟨by rw [HQ.out], rfl⟩
      case rest =>
        obtain ⟨rfl, rfl⟩ := hcut
        clear x0 HLAST HMID HZL z
        obtain ⟨n, hn⟩ : ∃ n, cnt x.data.toList 35 = n := ⟨_, rfl⟩
        obtain ⟨m, hm⟩ : ∃ m, cnt x.data.toList 32 = m := ⟨_, rfl⟩
        have hns : n ≤ x.size := by rw [← hn, size_list]; exact cnt_le _ _
        have hms : m ≤ x.size := by rw [← hm, size_list]; exact cnt_le _ _
        have hxs : x.size ≤ 1048576 := HXS.out
        obtain ⟨R, hR⟩ : ∃ R, marksR x = R := ⟨_, rfl⟩
        have HRY := Aside0.mk (show R.1.size ≤ 1048576 by rw [← hR]; exact Nat.le_trans (marksR_le x) HXS.out)
        have HPA := Aside0.mk (show rpara tk (rst tk L j) x = ⟨(rst tk L j).o ++ (mfin (tk R.1) ((rst tk L j).o.length : Int) m0).o ++ [⟨10, 0, R.2⟩], (rst tk L j).ls ++ (mfin (tk R.1) ((rst tk L j).o.length : Int) m0).ls⟩ by rw [← hR]; rfl)
        have HRE := Aside0.mk (show (if (1 ≤ n ∧ n ≤ 6) ∧ Lib.hasPrefix (x.data.toList.drop n) [32] = true then (tl x (n + 1), [⟨sHead, digS n⟩]) else if m % 2 = 1 ∨ 16 < m then (x, []) else if Lib.hasPrefix (x.data.toList.drop m) [45, 32] = true then (tl x (m + 2), lev m ++ [⟨sList, sBullet⟩]) else if Lib.hasPrefix (x.data.toList.drop m) [49, 46, 32] = true then (tl x (m + 3), lev m ++ [⟨sList, sNumber⟩]) else (x, [])) = R by rw [← hR, ← hn, ← hm]; rfl)
        have H35 := Aside0.mk hn
        have H32 := Aside0.mk hm
        clear hn hm hR
        go_upto_block 2 with (go_at_call 14; (first | ((with_reducible refine (span35n x n H35.out _ HXS.out).mono ?_); rintro e w5 ⟨rfl, rfl⟩) | ((with_reducible refine (span32n x m H32.out _ HXS.out).mono ?_); rintro e w5 ⟨rfl, rfl⟩)))
        obtain ⟨y, at1⟩ := R
        simp only at HRY HPA
        obtain ⟨wo, hwo⟩ : ∃ wo, wo = w5 := ⟨_, rfl⟩
        subst hwo
        obtain ⟨rs, hrs⟩ : ∃ rs, x.extract m x.size = rs := ⟨_, rfl⟩
        have HRS := Aside0.mk (show tl x m = rs from hrs)
        have HRD := Aside0.mk (show rs.data.toList = x.data.toList.drop m by rw [← hrs]; exact ext_list x m)
        have HRZ := Aside0.mk (show rs.size = x.size - m by rw [← hrs]; exact tl_size x m)
        rw [hrs]
        clear hrs
        have hrz : rs.size ≤ 1048576 := by have := HRZ.out; omega
        go_cut [8, 9] (fun v8 v9 wc => v8 = .string y ∧ Aside0 (Kd.R k32 32 wc wo.heap.size (fun _ => True) v9 at1) ∧ Aside0 (Below wo.heap.size wo wc))
        case first =>
          obtain ⟨b1, hb1⟩ : ∃ b, (decide (1 ≤ n ∧ n ≤ 6) && Lib.hasPrefix (x.data.toList.drop n) [32]) = b := ⟨_, rfl⟩
          have HB1 := Aside0.mk hb1
          clear hb1
          go_upto_region 15 with fail
          go_cut [57] (fun v57 wd => v57 = .bool b1 ∧ Aside0 (Below wo.heap.size wo wd))
          case first =>
            by_cases h1 : 1 ≤ n
            · have d1 : decide ((1 : Int) ≤ (n : Int)) = true := decide_eq_true (by omega)
              by_cases h6 : n ≤ 6
              · have d6 : decide ((n : Int) ≤ 6) = true := decide_eq_true (by omega)
                obtain ⟨hp, hhp⟩ : ∃ b, Lib.hasPrefix (x.data.toList.drop n) [32] = b := ⟨_, rfl⟩
                have HHP := Aside0.mk hhp
                have HQ := Aside0.mk (show b1 = hp by rw [← HB1.out, hhp, decide_eq_true ⟨h1, h6⟩, Bool.true_and])
                clear hhp h1 h6
                go_wp2_with (go_at_call 17; (with_reducible refine (has_ext x ⟨#[32]⟩ n hp _ HHP.out).mono ?_); rintro e w6 ⟨rfl, hb6⟩; have HB6 := Aside0.mk hb6; clear hb6)
                go_meet
                case rel => exact ⟨by rw [HQ.out], HB6⟩
              · have d6 : decide ((n : Int) ≤ 6) = false := decide_eq_false (by omega)
                have HQ := Aside0.mk (show b1 = false by rw [← HB1.out, decide_eq_false (fun h => h6 h.2), Bool.false_and])
                clear h1 h6
                go_wp2_with fail
                go_meet
                case rel => exact ⟨by rw [HQ.out], ⟨Below.refl _ _⟩⟩
            · have d1 : decide ((1 : Int) ≤ (n : Int)) = false := decide_eq_false (by omega)
              have HQ := Aside0.mk (show b1 = false by rw [← HB1.out, decide_eq_false (fun h => h1 h.1), Bool.false_and])
              clear h1
              go_wp2_with fail
              go_meet
              case rel => exact ⟨by rw [HQ.out], ⟨Below.refl _ _⟩⟩
          case rest =>
            obtain ⟨rfl, HB6⟩ := hcut
            cases b1
            · have HR2 := Aside0.mk (show (if m % 2 = 1 ∨ 16 < m then (x, []) else if Lib.hasPrefix rs.data.toList [45, 32] = true then (tl x (m + 2), lev m ++ [⟨sList, sBullet⟩]) else if Lib.hasPrefix rs.data.toList [49, 46, 32] = true then (tl x (m + 3), lev m ++ [⟨sList, sNumber⟩]) else (x, [])) = (y, at1) by
                have hneg : ¬((1 ≤ n ∧ n ≤ 6) ∧ Lib.hasPrefix (x.data.toList.drop n) [32] = true) := by
                  intro h
                  have := HB1.out
                  rw [decide_eq_true h.1, h.2] at this
                  exact absurd this (by decide)
                have := HRE.out
                rw [if_neg hneg, ← HRD.out] at this
                exact this)
              clear HB1
              obtain ⟨p2, hp2⟩ : ∃ b, Lib.hasPrefix rs.data.toList [45, 32] = b := ⟨_, rfl⟩
              have HP2 := Aside0.mk hp2
              obtain ⟨p3, hp3⟩ : ∃ b, Lib.hasPrefix rs.data.toList [49, 46, 32] = b := ⟨_, rfl⟩
              have HP3 := Aside0.mk hp3
              rw [hp2, hp3] at HR2
              clear hp2 hp3
              have ht : Int.tmod (m : Int) 2 = ((m % 2 : Nat) : Int) := rfl
              go_upto_region 18 with fail
              go_cut [78] (fun v78 wd => v78 = .bool (decide (m % 2 = 0 ∧ m ≤ 16) && (p2 || p3)) ∧ Aside0 (Below wo.heap.size wo wd))
              case first =>
                by_cases hm1 : m % 2 = 1
                · have HQ := Aside0.mk (show (decide (m % 2 = 0 ∧ m ≤ 16) && (p2 || p3)) = false by rw [decide_eq_false (by omega)]; rfl)
                  rw [hm1] at ht
                  clear hm1
                  go_wp2_with fail
                  go_meet
                  case rel => exact ⟨by rw [HQ.out], HB6⟩
                · have hm0 : m % 2 = 0 := by omega
                  rw [hm0] at ht
                  by_cases h16 : m ≤ 16
                  · have d16 : decide ((m : Int) ≤ 16) = true := decide_eq_true (by omega)
                    have HQ := Aside0.mk (show (decide (m % 2 = 0 ∧ m ≤ 16) && (p2 || p3)) = (p2 || p3) by rw [decide_eq_true ⟨hm0, h16⟩, Bool.true_and])
                    clear hm0 hm1 h16
                    cases p2
                    · go_wp2_with (go_at_call 17; (first | ((with_reducible refine (has_ok rs ⟨#[45, 32]⟩ false _ HP2.out).mono ?_); rintro e w7 ⟨rfl, hb7⟩; have HB7 := Aside0.mk (HB6.out.trans (hb7.mono HB6.out.size)); clear hb7) | ((with_reducible refine (has_ok rs ⟨#[49, 46, 32]⟩ p3 _ HP3.out).mono ?_); rintro e w8 ⟨rfl, hb8⟩; have HB8 := Aside0.mk (HB7.out.trans (hb8.mono HB7.out.size)); clear hb8)))
                      go_meet
                      case rel => exact ⟨by rw [HQ.out]; rfl, HB8⟩
                    · go_wp2_with (go_at_call 17; (first | ((with_reducible refine (has_ok rs ⟨#[45, 32]⟩ true _ HP2.out).mono ?_); rintro e w7 ⟨rfl, hb7⟩; have HB7 := Aside0.mk (HB6.out.trans (hb7.mono HB6.out.size)); clear hb7)))
                      go_meet
                      case rel => exact ⟨by rw [HQ.out]; rfl, HB7⟩
                  · have d16 : decide ((m : Int) ≤ 16) = false := decide_eq_false (by omega)
                    have HQ := Aside0.mk (show (decide (m % 2 = 0 ∧ m ≤ 16) && (p2 || p3)) = false by rw [decide_eq_false (by omega)]; rfl)
                    clear hm0 hm1 h16
                    go_wp2_with fail
                    go_meet
                    case rel => exact ⟨by rw [HQ.out], HB6⟩
              case rest =>
                clear HB6 ht
                obtain ⟨rfl, HB6⟩ := hcut
                by_cases hev : m % 2 = 0 ∧ m ≤ 16
                · rw [decide_eq_true hev, Bool.true_and]
                  have HR3 := Aside0.mk (show (if p2 = true then (tl x (m + 2), lev m ++ [(⟨sList, sBullet⟩ : S32)]) else if p3 = true then (tl x (m + 3), lev m ++ [⟨sList, sNumber⟩]) else (x, [])) = (y, at1) by
                    have := HR2.out
                    rwa [if_neg (by omega)] at this)
                  have HEV := Aside0.mk hev
                  have hm16 : m ≤ 16 := hev.2
                  clear hev
                  by_cases hpp : (p2 || p3) = true
                  · rw [hpp]
                    obtain ⟨bz, hbz⟩ : ∃ b, decide (0 < m) = b := ⟨_, rfl⟩
                    have hbz2 : decide ((0 : Int) < (m : Int)) = bz := by rw [← hbz]; exact decide_eq_decide.2 (by omega)
                    have HBZ := Aside0.mk hbz
                    go_upto_if 95 with fail
                    clear hbz hbz2
                    go_cut [9] (fun v9 we => Aside0 (Kd.R k32 32 we wo.heap.size (fun _ => True) v9 (lev m)) ∧ Aside0 (Below wo.heap.size wo we))
                    case first =>
                      cases bz
                      · have hm0 : m = 0 := by have := of_decide_eq_false HBZ.out; omega
                        have hl0 : lev m = [] := by rw [hm0]; rfl
                        have HQ := Aside0.mk hl0
                        clear hl0 hpp
                        clear hm0
                        go_wp2_with fail
                        go_meet
                        case rel => exact ⟨⟨by rw [HQ.out]; exact Kd.R_nil _ _ _ _ _⟩, HB6⟩
                      · have hm0 : 0 < m := of_decide_eq_true HBZ.out
                        have hl0 : lev m = [⟨sLevel, digS (m / 2)⟩] := if_pos hm0
                        have HQ := Aside0.mk hl0
                        clear hl0 hpp
                        have hq : Int.tdiv (m : Int) 2 = ((m / 2 : Nat) : Int) := rfl
                        obtain ⟨q, hqq⟩ : ∃ q, m / 2 = q := ⟨_, rfl⟩
                        rw [hqq] at hq HQ
                        have hq8 : q ≤ 8 := by omega
                        have hq2 : (m : Int) / 2 = (q : Int) := by omega
                        clear hm0 hqq
                        go_wp2_with (first
                          | (go_at_call 18; (with_reducible refine (decimal_ok q hq8 _).mono ?_); rintro e w7 ⟨rfl, hb7⟩; have HB7 := Aside0.mk (HB6.out.trans (hb7.mono HB6.out.size)); clear hb7)
                          | (at_builtin; refine Kd.R_append k32 (w0 := wo) wo.heap.size rfl (.tmp 96) (.tmp 101) 28 32 _ 32 rfl Tryd.underlying28 info32 rfl (by decide) (by decide) (.slice none 0 0) [] ⟨sLevel, digS q⟩ [.string sLevel, .string (digS q)] (fun _ => True) (fun _ => False) rfl rfl (k32_mkM _ _ _ _) (fun _ h => h.elim) (fun _ _ => trivial) (Kd.R_nil _ _ _ _ _) HB7.out HB7.out.size (by simp) ?_; intro v9 w9 ho9 hb9 hg9 hat9; have HO9 := Aside0.mk ho9; have HW9 := Aside0.mk hb9; clear ho9 hb9 hg9 hat9))
                        go_meet
                        case rel => exact ⟨⟨by rw [HQ.out]; exact HO9.out⟩, HW9⟩
                    case rest =>
                      obtain ⟨HL, HW⟩ := hcut
                      have HLL := Aside0.mk (show (lev m).length ≤ 1 by unfold lev; split <;> simp)
                      cases p2
                      · have HP3 := Aside0.mk (show Lib.hasPrefix rs.data.toList [49, 46, 32] = true by rw [HP3.out]; simpa using hpp)
                        have HR4 := Aside0.mk (show (tl x (m + 3), lev m ++ [(⟨sList, sNumber⟩ : S32)]) = (y, at1) by
                          have := HR3.out
                          rwa [if_neg (by decide), if_pos (show p3 = true by simpa using hpp)] at this)
                        have HY := Aside0.mk (show rs.extract 3 rs.size = y by rw [← HRS.out, tl_tl2]; exact (Prod.mk.inj HR4.out).1)
                        have HA := Aside0.mk (Prod.mk.inj HR4.out).2
                        clear hpp HR3 HR4 HR2
                        obtain ⟨h0, hc⟩ := pre_byte rs 49 [46, 32] HP3.out
                        have hcb : (((rs[0]'h0).toNat : Int) == 45) = false := by rw [hc]; rfl
                        have h3 : 3 ≤ rs.size := by have := pre_len HP3.out; rw [← size_list] at this; exact this
                        have h3i : (3 : Int) ≤ (rs.size : Int) := by omega
                        have h0i : (0 : Int) < (rs.size : Int) := by omega
                        clear hc
                        go_upto_region 23 with fail
                        obtain ⟨Av, cv, rfl⟩ := Kd.R_slice HL.out
                        have HLd := Aside0.mk (Kd.R_drew HL.out)
                        have HWd := Aside0.mk (show Below wo.heap.size wo wc.drew from below_drew HW.out)
                        have HSd := Aside0.mk (show wo.heap.size ≤ wc.drew.heap.size from HW.out.size)
                        refine start_ (n := 8) (S := fun w' => True) (ds := [3]) #[false, false, false, false, false, false, false, false] (by kernel_rfl) rfl rfl trivial (fun hHeld => ?_)
                        refine pure_ (i := 0) (N := some 112) (v := ?_) (a' := ?_) #[true, false, false, false, false, false, false, false] rfl rfl (by kernel_rfl) (fun _ _ _ h => h) (Or.inl ⟨by rfl, ?_⟩) ?_ ?_
                        rotate_left
                        · intro w'
                          go_simp
                          with_reducible rfl
                        rotate_left
                        · simp only [Act.put, List.setIfInBounds_toArray, List.set_cons_zero, List.set_cons_succ, i64_w, i32_w]
                          rfl
                        refine pure_ (i := 1) (N := some 113) (v := ?_) (a' := ?_) #[true, true, false, false, false, false, false, false] rfl rfl (by kernel_rfl) (fun _ _ _ h => h) (Or.inl ⟨by rfl, ?_⟩) ?_ ?_
                        rotate_left
                        · intro w'
                          go_simp
                          with_reducible rfl
                        rotate_left
                        · simp only [Act.put, List.setIfInBounds_toArray, List.set_cons_zero, List.set_cons_succ, i64_w, i32_w]
                          rfl
                        refine pure_ (i := 4) (N := some 116) (v := ?_) (a' := ?_) #[true, true, false, false, true, false, false, false] rfl rfl (by kernel_rfl) (fun _ _ _ h => h) (Or.inl ⟨by rfl, ?_⟩) ?_ ?_
                        rotate_left
                        · intro w'
                          go_simp
                          with_reducible rfl
                        rotate_left
                        · simp only [Act.put, List.setIfInBounds_toArray, List.set_cons_zero, List.set_cons_succ, i64_w, i32_w]
                          rfl
                        refine pure_ (i := 5) (N := some 117) (v := ?_) (a' := ?_) #[true, true, false, false, true, true, false, false] rfl rfl (by kernel_rfl) (fun _ _ _ h => h) (Or.inl ⟨by rfl, ?_⟩) ?_ ?_
                        rotate_left
                        · intro w'
                          go_simp
                          with_reducible rfl
                        rotate_left
                        · simp only [Act.put, List.setIfInBounds_toArray, List.set_cons_zero, List.set_cons_succ, i64_w, i32_w]
                          rfl
                        refine one_ (i := 2) (N := some 114) #[true, true, true, false, true, true, false, false] rfl rfl (by kernel_rfl) (by decide) (fun K hK => ?_)
                        refine value_ (w1 := ?_) (v := ?_) (by rfl) rfl ?_ ?_
                        rotate_left 2
                        · go_simp
                          constructor
                          · rfl
                          · rfl
                        refine hK.out _ _ trivial (fun hHeld => ?_)
                        clear hK K
                        refine norm_ (a' := ?_) ?_ ?_
                        rotate_left
                        · show Act.put _ (some 114) _ = _
                          simp only [Act.put, List.setIfInBounds_toArray, List.set_cons_zero, List.set_cons_succ, i64_w, i32_w]
                          rfl
                        refine last_ (i := 3) (N := some 115) #[true, true, true, true, true, true, false, false] rfl rfl (by kernel_rfl) (by decide) (fun K hK => ?_)
                        refine Kd.R_append_step k32 (w0 := wc.drew) wo.heap.size (by rfl) (.tmp 112) (.tmp 114) 28 32 _ 32 (by rfl) Tryd.underlying28 info32 rfl (by decide) (by decide) (.slice Av (lev m).length cv) (lev m) ⟨sList, sNumber⟩ [.string sList, .string sNumber] (fun _ => True) (fun _ => False) (by rfl) (by rfl) (k32_mkM _ _ _ _) (fun _ h => h.elim) (fun _ _ => trivial) HLd.out (Below.refl _ _) HSd.out (by have := HLL.out; omega) ?_
                        intro v9 w9 ho9 hb9 hg9 hat9
                        have HO9 := Aside0.mk ho9
                        have HW9 := Aside0.mk (HWd.out.trans hb9)
                        clear ho9 hb9 hg9 hat9
                        refine hK.out _ _ ?_
                        clear hK K
                        refine norm_ (a' := ?_) ?_ ?_
                        rotate_left
                        · show Act.put _ (some 115) _ = _
                          simp only [Act.put, List.setIfInBounds_toArray, List.set_cons_zero, List.set_cons_succ, i64_w, i32_w]
                          rfl
                        refine pure_ (i := 6) (N := some 9) (v := ?_) (a' := ?_) #[true, true, true, true, true, true, true, false] rfl rfl (by kernel_rfl) (fun _ _ _ h => h) (Or.inl ⟨by rfl, ?_⟩) ?_ ?_
                        rotate_left
                        · intro w'
                          go_simp
                          with_reducible rfl
                        rotate_left
                        · simp only [Act.put, List.setIfInBounds_toArray, List.set_cons_zero, List.set_cons_succ, i64_w, i32_w]
                          rfl
                        refine pure_ (i := 7) (N := some 8) (v := ?_) (a' := ?_) #[true, true, true, true, true, true, true, true] rfl rfl (by kernel_rfl) (fun _ _ _ h => h) (Or.inl ⟨by rfl, ?_⟩) ?_ ?_
                        rotate_left
                        · intro w'
                          go_simp
                          with_reducible rfl
                        rotate_left
                        · simp only [Act.put, List.setIfInBounds_toArray, List.set_cons_zero, List.set_cons_succ, i64_w, i32_w]
                          rfl
                        refine done_ (by kernel_rfl) ?_
                        go_wp2_with fail
                        go_meet
                        case rel => exact ⟨by rw [← HY.out], ⟨by rw [← HA.out]; exact HO9.out⟩, HW9⟩
                      · have HR4 := Aside0.mk (show (tl x (m + 2), lev m ++ [(⟨sList, sBullet⟩ : S32)]) = (y, at1) by
                          have := HR3.out
                          rwa [if_pos rfl] at this)
                        have HY := Aside0.mk (show rs.extract 2 rs.size = y by rw [← HRS.out, tl_tl2]; exact (Prod.mk.inj HR4.out).1)
                        have HA := Aside0.mk (Prod.mk.inj HR4.out).2
                        clear hpp HR3 HR4 HR2
                        obtain ⟨h0, hc⟩ := pre_byte rs 45 [32] HP2.out
                        have hcb : (((rs[0]'h0).toNat : Int) == 45) = true := by rw [hc]; rfl
                        have h3 : 2 ≤ rs.size := by have := pre_len HP2.out; rw [← size_list] at this; exact this
                        have h3i : (2 : Int) ≤ (rs.size : Int) := by omega
                        have h0i : (0 : Int) < (rs.size : Int) := by omega
                        clear hc
                        go_upto_region 22 with fail
                        obtain ⟨Av, cv, rfl⟩ := Kd.R_slice HL.out
                        have HLd := Aside0.mk (Kd.R_drew HL.out)
                        have HWd := Aside0.mk (show Below wo.heap.size wo wc.drew from below_drew HW.out)
                        have HSd := Aside0.mk (show wo.heap.size ≤ wc.drew.heap.size from HW.out.size)
                        refine start_ (n := 8) (S := fun w' => True) (ds := [3]) #[false, false, false, false, false, false, false, false] (by kernel_rfl) rfl rfl trivial (fun hHeld => ?_)
                        refine pure_ (i := 0) (N := some 106) (v := ?_) (a' := ?_) #[true, false, false, false, false, false, false, false] rfl rfl (by kernel_rfl) (fun _ _ _ h => h) (Or.inl ⟨by rfl, ?_⟩) ?_ ?_
                        rotate_left
                        · intro w'
                          go_simp
                          with_reducible rfl
                        rotate_left
                        · simp only [Act.put, List.setIfInBounds_toArray, List.set_cons_zero, List.set_cons_succ, i64_w, i32_w]
                          rfl
                        refine pure_ (i := 1) (N := some 107) (v := ?_) (a' := ?_) #[true, true, false, false, false, false, false, false] rfl rfl (by kernel_rfl) (fun _ _ _ h => h) (Or.inl ⟨by rfl, ?_⟩) ?_ ?_
                        rotate_left
                        · intro w'
                          go_simp
                          with_reducible rfl
                        rotate_left
                        · simp only [Act.put, List.setIfInBounds_toArray, List.set_cons_zero, List.set_cons_succ, i64_w, i32_w]
                          rfl
                        refine pure_ (i := 4) (N := some 110) (v := ?_) (a' := ?_) #[true, true, false, false, true, false, false, false] rfl rfl (by kernel_rfl) (fun _ _ _ h => h) (Or.inl ⟨by rfl, ?_⟩) ?_ ?_
                        rotate_left
                        · intro w'
                          go_simp
                          with_reducible rfl
                        rotate_left
                        · simp only [Act.put, List.setIfInBounds_toArray, List.set_cons_zero, List.set_cons_succ, i64_w, i32_w]
                          rfl
                        refine pure_ (i := 5) (N := some 111) (v := ?_) (a' := ?_) #[true, true, false, false, true, true, false, false] rfl rfl (by kernel_rfl) (fun _ _ _ h => h) (Or.inl ⟨by rfl, ?_⟩) ?_ ?_
                        rotate_left
                        · intro w'
                          go_simp
                          with_reducible rfl
                        rotate_left
                        · simp only [Act.put, List.setIfInBounds_toArray, List.set_cons_zero, List.set_cons_succ, i64_w, i32_w]
                          rfl
                        refine one_ (i := 2) (N := some 108) #[true, true, true, false, true, true, false, false] rfl rfl (by kernel_rfl) (by decide) (fun K hK => ?_)
                        refine value_ (w1 := ?_) (v := ?_) (by rfl) rfl ?_ ?_
                        rotate_left 2
                        · go_simp
                          constructor
                          · rfl
                          · rfl
                        refine hK.out _ _ trivial (fun hHeld => ?_)
                        clear hK K
                        refine norm_ (a' := ?_) ?_ ?_
                        rotate_left
                        · show Act.put _ (some 108) _ = _
                          simp only [Act.put, List.setIfInBounds_toArray, List.set_cons_zero, List.set_cons_succ, i64_w, i32_w]
                          rfl
                        refine last_ (i := 3) (N := some 109) #[true, true, true, true, true, true, false, false] rfl rfl (by kernel_rfl) (by decide) (fun K hK => ?_)
                        refine Kd.R_append_step k32 (w0 := wc.drew) wo.heap.size (by rfl) (.tmp 106) (.tmp 108) 28 32 _ 32 (by rfl) Tryd.underlying28 info32 rfl (by decide) (by decide) (.slice Av (lev m).length cv) (lev m) ⟨sList, sBullet⟩ [.string sList, .string sBullet] (fun _ => True) (fun _ => False) (by rfl) (by rfl) (k32_mkM _ _ _ _) (fun _ h => h.elim) (fun _ _ => trivial) HLd.out (Below.refl _ _) HSd.out (by have := HLL.out; omega) ?_
                        intro v9 w9 ho9 hb9 hg9 hat9
                        have HO9 := Aside0.mk ho9
                        have HW9 := Aside0.mk (HWd.out.trans hb9)
                        clear ho9 hb9 hg9 hat9
                        refine hK.out _ _ ?_
                        clear hK K
                        refine norm_ (a' := ?_) ?_ ?_
                        rotate_left
                        · show Act.put _ (some 109) _ = _
                          simp only [Act.put, List.setIfInBounds_toArray, List.set_cons_zero, List.set_cons_succ, i64_w, i32_w]
                          rfl
                        refine pure_ (i := 6) (N := some 9) (v := ?_) (a' := ?_) #[true, true, true, true, true, true, true, false] rfl rfl (by kernel_rfl) (fun _ _ _ h => h) (Or.inl ⟨by rfl, ?_⟩) ?_ ?_
                        rotate_left
                        · intro w'
                          go_simp
                          with_reducible rfl
                        rotate_left
                        · simp only [Act.put, List.setIfInBounds_toArray, List.set_cons_zero, List.set_cons_succ, i64_w, i32_w]
                          rfl
                        refine pure_ (i := 7) (N := some 8) (v := ?_) (a' := ?_) #[true, true, true, true, true, true, true, true] rfl rfl (by kernel_rfl) (fun _ _ _ h => h) (Or.inl ⟨by rfl, ?_⟩) ?_ ?_
                        rotate_left
                        · intro w'
                          go_simp
                          with_reducible rfl
                        rotate_left
                        · simp only [Act.put, List.setIfInBounds_toArray, List.set_cons_zero, List.set_cons_succ, i64_w, i32_w]
                          rfl
                        refine done_ (by kernel_rfl) ?_
                        go_wp2_with fail
                        go_meet
                        case rel => exact ⟨by rw [← HY.out], ⟨by rw [← HA.out]; exact HO9.out⟩, HW9⟩
                  · have hpf : (p2 || p3) = false := by simpa using hpp
                    rw [hpf]
                    have HR4 := Aside0.mk (show (x, ([] : List S32)) = (y, at1) by
                      have := HR3.out
                      rw [Bool.or_eq_false_iff] at hpf
                      rwa [hpf.1, hpf.2, if_neg (by decide), if_neg (by decide)] at this)
                    have HY := Aside0.mk (Prod.mk.inj HR4.out).1
                    have HA := Aside0.mk (Prod.mk.inj HR4.out).2
                    clear hpp hpf HR3 HR4 HR2
                    go_wp2_with fail
                    go_meet
                    case rel => exact ⟨by rw [HY.out], ⟨by rw [← HA.out]; exact Kd.R_nil _ _ _ _ _⟩, HB6⟩
                · rw [decide_eq_false hev, Bool.false_and]
                  have HR4 := Aside0.mk (show (x, ([] : List S32)) = (y, at1) by
                    have := HR2.out
                    rwa [if_pos (by omega)] at this)
                  have HY := Aside0.mk (Prod.mk.inj HR4.out).1
                  have HA := Aside0.mk (Prod.mk.inj HR4.out).2
                  clear hev HR4 HR2
                  go_wp2_with fail
                  go_meet
                  case rel => exact ⟨by rw [HY.out], ⟨by rw [← HA.out]; exact Kd.R_nil _ _ _ _ _⟩, HB6⟩
            · have hb := HB1.out
              rw [Bool.and_eq_true, decide_eq_true_eq] at hb
              have HEQ := Aside0.mk (show (tl x (n + 1), [(⟨sHead, digS n⟩ : S32)]) = (y, at1) by rw [← HRE.out, if_pos hb])
              have HY := Aside0.mk (Prod.mk.inj HEQ.out).1
              have HA := Aside0.mk (Prod.mk.inj HEQ.out).2
              have hn1 : n + 1 ≤ x.size := by
                have := pre_len hb.2
                simp only [List.length_drop, ← size_list, List.length_cons, List.length_nil] at this
                omega
              have hn8 : n ≤ 8 := by omega
              have hnn : (0 : Int) ≤ (n : Int) + 1 := by omega
              have hn2 : (n : Int) + 1 ≤ (x.size : Int) := by omega
              have htn : ((n : Int) + 1).toNat = n + 1 := by omega
              clear hb
              go_wp2_with (go_at_call 18; (with_reducible refine (decimal_ok n hn8 _).mono ?_); rintro e w7 ⟨rfl, hb7⟩; have HB7 := Aside0.mk (HB6.out.trans (hb7.mono HB6.out.size)); clear hb7)
              go_meet
              case rel => exact ⟨by rw [← HY.out]; first | rfl | (rw [htn]; rfl), ⟨by rw [← HA.out]; exact R_one w7 wo.heap.size HB7.out.size ⟨sHead, digS n⟩⟩, ⟨HB7.out.alloc HB7.out.size _⟩⟩
        case rest =>
          obtain ⟨rfl, HA, HBW⟩ := hcut
          have HM2 := Aside0.mk (HM.out.below HBW.out)
          have HWO := Aside0.mk (show w.heap.size ≤ wo.heap.size from HM.out.bl.size)
          clear HM HRE H35 H32 HRS HRD HRZ
          obtain ⟨st, hst⟩ : ∃ st, rst tk L j = st := ⟨_, rfl⟩
          rw [hst] at HSS HXM HM2 HPA
          clear hst
          obtain ⟨kt, hkt⟩ := HTOK.out y HRY.out
          have HKT := Aside0.mk hkt
          have HTY := Aside0.mk (show (tk y).length ≤ 1048576 from Nat.le_trans (HTK.out y) HRY.out)
          have HSL := Aside0.mk (show st.o.length ≤ 2097153 ∧ st.ls.length ≤ 2097153 by have h := HXM.out; unfold mxr at h; omega)
          clear hkt
          obtain ⟨A4, c4, rfl⟩ := Kd.R_slice HM2.out.o
          obtain ⟨A9, c9, rfl⟩ := Kd.R_slice HA.out
          have HFL := Aside0.mk (mfin_len (tk y) (st.o.length : Int))
          obtain ⟨F, hF⟩ : ∃ F, mfin (tk y) (st.o.length : Int) m0 = F := ⟨_, rfl⟩
          rw [hF] at HPA HFL
          have HMLk := Aside0.mk (fun W => MarkedLine_ok kt y (tk y) (st.o.length : Int) W HKT.out HTY.out (by omega) (by have := HSL.out; omega))
          rw [hF] at HMLk
          clear hF
          go_upto_region 25 with (go_at_call 19; (refine (HMLk.out _).mono ?_); rintro e w6 ⟨⟨vo, vl, rfl, ho, hl⟩, hb⟩; have HM6 := Aside0.mk (HM2.out.below hb); have HA6 := Aside0.mk (Kd.R_below HA.out hb); have HO6 := Aside0.mk (Kd.R_lower (Kd.R_mono (Kd.R_new ho (Kd.R_own HM2.out.o).choose_spec) (fun k hk => hk.2)) HM2.out.bl.size); have HL6 := Aside0.mk (Kd.R_lower hl HM2.out.bl.size); clear ho hl hb)
          obtain ⟨Ao, co, hvo, hRow⟩ := rows_of HO6.out
          subst hvo
          obtain ⟨Al, cl, hvl, _, hRowL⟩ := Kd.R_reads HL6.out
          subst hvl
          have HRow := Aside0.mk hRow
          clear hRow hRowL
          go_wp2_with (first
            | (at_builtin; refine Kd.R_append_rows k30 (w0 := w) w.heap.size rfl (.tmp 125) (.tmp 126) 22 30 _ 40 rfl Tryd.underlying22 info30 rfl (by decide) (by decide) (.slice A4 st.o.length c4) st.o F.o Ao F.o.length co (fun _ => True) (fun k => some k ≠ (Value.slice A4 st.o.length c4).ownBlock ∧ some k ≠ (Value.slice Ao F.o.length co).ownBlock) rfl rfl HM6.out.o HRow.out (fun _ _ h => h) (fun _ h => ⟨trivial, h.1⟩) (fun _ _ => trivial) HM6.out.bl HM6.out.bl.size (by have := HSL.out; have := HFL.out; have := HTY.out; omega) ?_; intro v7 w7 ho7 hb7 hg7 hat7; have HO7 := Aside0.mk ho7; have HB7 := Aside0.mk hb7; have HA7 := Aside0.mk (Kd.R_over HA6.out HM6.out.o (by decide) hg7); have HS7 := Aside0.mk (Kd.R_over HM6.out.l HM6.out.o (by decide) hg7); have HL7 := Aside0.mk (Kd.R_over HL6.out HM6.out.o (by decide) hg7); have HN7 := Aside0.mk (HM6.out.ln.grown hg7 (Kd.R_ne HM6.out.o HM6.out.ln.2.choose_spec (by decide))); have HX7 := Aside0.mk (show k30.M w7 w.heap.size (fun k => some k ≠ v7.ownBlock) ⟨10, 0, at1⟩ [.int .i64 10, .int .i64 0, .slice A9 at1.length c9] from k30_mkM _ _ _ _ (Kd.R_lower (R_typed HA7.out ho7 (by decide)) HWO.out)); clear ho7 hb7 hg7 hat7)
            | (at_builtin; refine Kd.R_append k30 (w0 := w) w.heap.size rfl (.tmp 127) (.tmp 130) 22 30 _ 40 rfl Tryd.underlying22 info30 rfl (by decide) (by decide) v7 (st.o ++ F.o) ⟨10, 0, at1⟩ [.int .i64 10, .int .i64 0, .slice A9 at1.length c9] (fun _ => True) (fun k => some k ≠ v7.ownBlock) rfl rfl HX7.out (fun _ h => ⟨trivial, h⟩) (fun _ _ => trivial) HO7.out HB7.out HB7.out.size (by rw [List.length_append]; have := HSL.out; have := HFL.out; have := HTY.out; omega) ?_; intro v8 w8 ho8 hb8 hg8 hat8; have HO8 := Aside0.mk ho8; have HB8 := Aside0.mk hb8; have HS8 := Aside0.mk (Kd.R_over HS7.out HO7.out (by decide) hg8); have HL8 := Aside0.mk (Kd.R_over HL7.out HO7.out (by decide) hg8); have HN8 := Aside0.mk (HN7.out.grown hg8 (Kd.R_ne HO7.out HN7.out.2.choose_spec (by decide))); have HR8 := Aside0.mk (Kd.R_reads' HL8.out).2.2; clear ho8 hb8 hg8 hat8)
            | (at_builtin; refine Kd.R_append_rows k38 (Rr := k38.K w8) (w0 := w) w.heap.size rfl (.tmp 132) (.tmp 133) 23 38 _ 48 rfl Tryd.underlying23 info38 rfl (by decide) (by decide) _ st.ls F.ls Al F.ls.length cl (fun _ => True) (fun _ => False) rfl rfl HS8.out HR8.out (fun _ _ h => by rw [k38_open h]; exact k38_mkM _ _ _ _) (fun _ h => h.elim) (fun _ _ => trivial) HB8.out HB8.out.size (by have := HSL.out; have := HFL.out; have := HTY.out; omega) ?_; intro v9 w9 ho9 hb9 hg9 hat9; have HO9 := Aside0.mk (Kd.R_over HO8.out HS8.out (by decide) hg9); have HS9 := Aside0.mk ho9; have HB9 := Aside0.mk hb9; have HN9 := Aside0.mk (HN8.out.grown hg9 (Kd.R_ne HS8.out HN8.out.2.choose_spec (by decide))); clear ho9 hb9 hg9 hat9))
          go_roundg (N - (j + 1))
          case measure => omega
          case rel => exact ⟨j + 1, by omega, by omega, by go_num, ⟨by rw [HSS.out, HPA.out]; exact ⟨HO9.out, HS9.out, HN9.out, HB9.out⟩⟩⟩
    · have hjK : j = K := by omega
      subst hjK
      clear hlt
      by_cases hN3 : j = N
      · have hjb : decide (j < N) = false := decide_eq_false (by omega)
        subst hN3
        go_wp2_with fail
        go_ret2
        exact ⟨⟨_, _, rfl, HM.out.o, HM.out.l⟩, HM.out.bl⟩
      · obtain ⟨hj1, hj2, hj3⟩ := HK.out.2.1 (by omega)
        have hjl : j < ls.length := by rw [HN.out]; omega
        have hjb : decide (j < N) = true := decide_eq_true (by omega)
        have hjp : ((j : Int) < (N : Int)) = True := eq_true (by omega)
        have x0 : wr.cell? (a.add j) = some (.string (ls[j]'hjl)) := HM.out.ln.1 j _ (List.getElem?_eq_getElem hjl)
        rw [← hj1, List.getD_eq_getElem?_getD, List.getElem?_eq_getElem hjl] at hj3
        obtain ⟨z, hz⟩ : ∃ z, ls[j]'hjl = z := ⟨_, rfl⟩
        have hz0 : z.size = 0 := by rw [← hz]; exact hj3
        clear hj3
        rw [hz] at x0
        have hb1 : z.toList.isEmpty = true := by rw [str_empty]; exact decide_eq_true hz0
        have hjb1 : ((j : Int) == (N : Int) - 1) = true := beq_iff_eq.2 (by omega)
        have hj0 : decide ((0 : Int) < (j : Int)) = true := decide_eq_true (by omega)
        have hjn : decide (0 < j) = true := decide_eq_true (by omega)
        clear hz hz0 hj1 hjl hN3
        go_wp2_with fail
        go_ret2
        exact ⟨⟨_, _, rfl, HM.out.o, HM.out.l⟩, HM.out.bl⟩
end Go.Proofs.YtmjdeejccmcpnabDoor.Q
