/- marks: the marks of a paragraph, in plain words, and the walk. -/
import Derived.Test.YtmjdeejccmcpnabDoorG1
namespace Go.Proofs.YtmjdeejccmcpnabDoor.Q
open Go.RowKit Go.Proofs.YtmjdeejccmcpnabDoorW.PrintWords Go.Proofs.YtmjdeejccmcpnabDoorW.PrintLast Go.Proofs.YtmjdeejccmcpnabDoorW.PrintMore
set_option linter.unusedVariables false
set_option linter.unusedSimpArgs false
/-- how many of a byte a text begins with -/
def cnt (l : List UInt8) (c : UInt8) : Nat := l.length - (Lib.trimLeftB l c).length
def digS (n : Nat) : ByteArray := ⟨#[UInt8.ofNat (48 + n)]⟩
def sHead : ByteArray := ⟨#[104, 101, 97, 100]⟩
def sLevel : ByteArray := ⟨#[108, 101, 118, 101, 108]⟩
def sList : ByteArray := ⟨#[108, 105, 115, 116]⟩
def sBullet : ByteArray := ⟨#[98, 117, 108, 108, 101, 116]⟩
def sNumber : ByteArray := ⟨#[110, 117, 109, 98, 101, 114]⟩
def lev (m : Nat) : List S32 := if 0 < m then [⟨sLevel, digS (m / 2)⟩] else []
def marksR (s : ByteArray) : ByteArray × List S32 :=
  if (1 ≤ cnt s.data.toList 35 ∧ cnt s.data.toList 35 ≤ 6) ∧ Lib.hasPrefix (s.data.toList.drop (cnt s.data.toList 35)) [32] = true then (tl s (cnt s.data.toList 35 + 1), [⟨sHead, digS (cnt s.data.toList 35)⟩])
  else if cnt s.data.toList 32 % 2 = 1 ∨ 16 < cnt s.data.toList 32 then (s, [])
  else if Lib.hasPrefix (s.data.toList.drop (cnt s.data.toList 32)) [45, 32] = true then (tl s (cnt s.data.toList 32 + 2), lev (cnt s.data.toList 32) ++ [⟨sList, sBullet⟩])
  else if Lib.hasPrefix (s.data.toList.drop (cnt s.data.toList 32)) [49, 46, 32] = true then (tl s (cnt s.data.toList 32 + 3), lev (cnt s.data.toList 32) ++ [⟨sList, sNumber⟩])
  else (s, [])
theorem trim_le (l : List UInt8) (c : UInt8) : (Lib.trimLeftB l c).length ≤ l.length := by
  unfold Lib.trimLeftB
  exact (List.dropWhile_suffix _).length_le
theorem trimL (s : ByteArray) (c : UInt8) (hc : c.toNat < 128) (t : ByteArray) (ht : (⟨(Lib.trimLeftB s.data.toList c).toArray⟩ : ByteArray) = t) (w : World) :
    Calls Tryd.prog 22 #[.string s, .string ⟨#[c]⟩] w fun e w' => e = .returned (.string t) ∧ w' = w := by
  subst ht
  exact Tryd.strings_TrimLeft_one s c hc w
theorem trim_size (s : ByteArray) (c : UInt8) (t : ByteArray) (ht : (⟨(Lib.trimLeftB s.data.toList c).toArray⟩ : ByteArray) = t) : s.size = cnt s.data.toList c + t.size := by
  have h1 := trim_le s.data.toList c
  have h2 : t.size = (Lib.trimLeftB s.data.toList c).length := by rw [← ht]; rfl
  unfold cnt
  rw [← size_list] at h1 ⊢
  omega
theorem cutP (s p : ByteArray) (k : Nat) (b : Bool) (t : ByteArray) (w : World) (h : Lib.hasPrefix (s.data.toList.drop k) p.data.toList = b) (ht : (⟨(Lib.trimPrefix (s.data.toList.drop k) p.data.toList).toArray⟩ : ByteArray) = t) :
    Calls Tryd.prog 24 #[.string (s.extract k s.size), .string p] w fun e w' => e = .returned (.tuple #[.string t, .bool b]) ∧ w' = w := by
  have := Tryd.strings_CutPrefix (s.extract k s.size) p w
  rw [ext_list, h, ht] at this
  exact this
theorem cut_tl (s : ByteArray) (p : List UInt8) (k : Nat) (h : Lib.hasPrefix (s.data.toList.drop k) p = true) : (⟨(Lib.trimPrefix (s.data.toList.drop k) p).toArray⟩ : ByteArray) = tl s (k + p.length) := by
  have e : Lib.trimPrefix (s.data.toList.drop k) p = s.data.toList.drop (k + p.length) := by
    unfold Lib.trimPrefix
    rw [if_pos h, List.drop_drop]
  have h2 : (tl s (k + p.length)).data.toList = s.data.toList.drop (k + p.length) := tl_list _ _
  rw [e, ← h2]
theorem R_one (w : World) (B : Nat) (hB : B ≤ w.heap.size) (x : S32) : Kd.R k32 32 (w.alloc (.cells #[.string x.f0, .string x.f1] 32)) B (fun _ => True) (.slice (some ⟨w.heap.size, 0, none⟩) 1 1) [x] :=
  ⟨fun _ _ => trivial, [.string x.f0, .string x.f1], ⟨rfl, .inr ⟨w.heap.size, 1, #[.string x.f0, .string x.f1], rfl, hB, blk_new _ _, Nat.le_refl _, by decide, rfl, rfl⟩⟩, ⟨rfl, fun j p hj => by
    match j, hj with
    | 0, hj => simp at hj; subst hj; exact k32_mkM _ _ _ _⟩⟩
set_option maxHeartbeats 4000000 in
set_option maxRecDepth 100000 in
theorem marks_ok (s : ByteArray) (w : World) (hs : s.size ≤ 1000000000) :
    Calls Tryd.prog 11 #[.string s] w fun e w' => (∃ v, e = .returned (.tuple #[.string (marksR s).1, v]) ∧ Kd.R k32 32 w' w.heap.size (fun _ => True) v (marksR s).2) ∧ Below w.heap.size w w' := by
  obtain ⟨t1, ht1⟩ : ∃ t, (⟨(Lib.trimLeftB s.data.toList 35).toArray⟩ : ByteArray) = t := ⟨_, rfl⟩
  obtain ⟨t2, ht2⟩ : ∃ t, (⟨(Lib.trimLeftB s.data.toList 32).toArray⟩ : ByteArray) = t := ⟨_, rfl⟩
  have e1 := trim_size s 35 t1 ht1
  have e2 := trim_size s 32 t2 ht2
  have H1 := Aside0.mk ht1
  have H2 := Aside0.mk ht2
  obtain ⟨R, hR⟩ : ∃ R, marksR s = R := ⟨_, rfl⟩
  rw [hR]
  unfold marksR at hR
  obtain ⟨n, hn⟩ : ∃ n, cnt s.data.toList 35 = n := ⟨_, rfl⟩
  obtain ⟨m, hm⟩ : ∃ m, cnt s.data.toList 32 = m := ⟨_, rfl⟩
  rw [hn, hm] at hR
  have HM := Aside0.mk hR
  rw [hn] at e1
  rw [hm] at e2
  have E1 := Aside0.mk e1
  have E2 := Aside0.mk e2
  have hns : n ≤ s.size := by omega
  have hms : m ≤ s.size := by omega
  clear ht1 ht2 hn hm hR e1 e2
  go_enter Tryd.func11, Tryd.ntmps11
  go_upto_region 1 with fail
  go_cut [4] (fun v4 wc => v4 = .int .i64 (n : Int) ∧ wc = w)
  case first =>
    have e1 := E1.out
    go_wp2_with (go_at_call 22; refine (trimL s 35 (by decide) t1 H1.out _).mono ?_; rintro e w' ⟨rfl, rfl⟩)
    go_meet
    case rel => exact ⟨rfl, rfl⟩
  case rest =>
    obtain ⟨rfl, rfl⟩ := hcut
    obtain ⟨b1, hb1⟩ : ∃ b, (decide (1 ≤ n ∧ n ≤ 6) && Lib.hasPrefix (s.data.toList.drop n) [32]) = b := ⟨_, rfl⟩
    have HB1 := Aside0.mk hb1
    clear hb1
    go_upto_region 2 with fail
    go_cut [27] (fun v27 wd => v27 = .bool b1 ∧ wd = wc)
    case first =>
      by_cases h1 : 1 ≤ n
      · have d1 : decide ((1 : Int) ≤ (n : Int)) = true := decide_eq_true (by omega)
        by_cases h6 : n ≤ 6
        · have d6 : decide ((n : Int) ≤ 6) = true := decide_eq_true (by omega)
          obtain ⟨hp, hhp⟩ : ∃ b, Lib.hasPrefix (s.data.toList.drop n) [32] = b := ⟨_, rfl⟩
          have HHP := Aside0.mk hhp
          have HQ := Aside0.mk (show b1 = hp by rw [← HB1.out, hhp, decide_eq_true ⟨h1, h6⟩, Bool.true_and])
          clear hhp h1 h6
          go_wp2_with (go_at_call 23; refine (hasPrefix_ext s ⟨#[32]⟩ n hp _ HHP.out).mono ?_; rintro e w' ⟨rfl, rfl⟩)
          go_meet
          case rel => exact ⟨by rw [HQ.out], rfl⟩
        · have d6 : decide ((n : Int) ≤ 6) = false := decide_eq_false (by omega)
          have HQ := Aside0.mk (show b1 = false by rw [← HB1.out, decide_eq_false (fun h => h6 h.2), Bool.false_and])
          clear h1 h6
          go_wp2_with fail
          go_meet
          case rel => exact ⟨by rw [HQ.out], rfl⟩
      · have d1 : decide ((1 : Int) ≤ (n : Int)) = false := decide_eq_false (by omega)
        have HQ := Aside0.mk (show b1 = false by rw [← HB1.out, decide_eq_false (fun h => h1 h.1), Bool.false_and])
        clear h1
        go_wp2_with fail
        go_meet
        case rel => exact ⟨by rw [HQ.out], rfl⟩
    case rest =>
      obtain ⟨rfl, rfl⟩ := hcut
      cases b1
      · have HM2 := Aside0.mk (show (if m % 2 = 1 ∨ 16 < m then (s, []) else if Lib.hasPrefix (s.data.toList.drop m) [45, 32] = true then (tl s (m + 2), lev m ++ [⟨sList, sBullet⟩]) else if Lib.hasPrefix (s.data.toList.drop m) [49, 46, 32] = true then (tl s (m + 3), lev m ++ [⟨sList, sNumber⟩]) else (s, [])) = R by
          have hneg : ¬((1 ≤ n ∧ n ≤ 6) ∧ Lib.hasPrefix (s.data.toList.drop n) [32] = true) := by
            intro h
            have := HB1.out
            rw [decide_eq_true h.1, h.2] at this
            exact absurd this (by decide)
          have := HM.out
          rwa [if_neg hneg] at this)
        clear HM HB1 hns
        go_upto_region 4 with fail
        go_cut [4] (fun v4 we => v4 = .int .i64 (m : Int) ∧ we = wc)
        case first =>
          have e2 := E2.out
          go_wp2_with (go_at_call 22; refine (trimL s 32 (by decide) t2 H2.out _).mono ?_; rintro e w' ⟨rfl, rfl⟩)
          go_meet
          case rel => exact ⟨rfl, rfl⟩
        case rest =>
          obtain ⟨rfl, rfl⟩ := hcut
          have ht : Int.tmod (m : Int) 2 = ((m % 2 : Nat) : Int) := rfl
          go_upto_region 5 with fail
          go_cut [50] (fun v50 we => v50 = .bool (decide (m % 2 = 1 ∨ 16 < m)) ∧ we = wc)
          case first =>
            by_cases hm1 : m % 2 = 1
            · have HQ := Aside0.mk (show decide (m % 2 = 1 ∨ 16 < m) = true from decide_eq_true (.inl hm1))
              rw [hm1] at ht
              clear hm1
              go_wp2_with fail
              go_meet
              case rel => exact ⟨by rw [HQ.out], rfl⟩
            · have hm0 : m % 2 = 0 := by omega
              rw [hm0] at ht
              by_cases h16 : 16 < m
              · have d16 : decide ((16 : Int) < (m : Int)) = true := decide_eq_true (by omega)
                have HQ := Aside0.mk (show decide (m % 2 = 1 ∨ 16 < m) = true from decide_eq_true (.inr h16))
                clear hm0 h16
                go_wp2_with fail
                go_meet
                case rel => exact ⟨by rw [HQ.out], rfl⟩
              · have d16 : decide ((16 : Int) < (m : Int)) = false := decide_eq_false (by omega)
                have HQ := Aside0.mk (show decide (m % 2 = 1 ∨ 16 < m) = false from decide_eq_false (by omega))
                clear hm0 h16
                go_wp2_with fail
                go_meet
                case rel => exact ⟨by rw [HQ.out], rfl⟩
          case rest =>
            obtain ⟨rfl, rfl⟩ := hcut
            clear ht
            by_cases hodd : m % 2 = 1 ∨ 16 < m
            · have HR := Aside0.mk (show (s, []) = R by rw [← HM2.out, if_pos hodd])
              rw [decide_eq_true hodd]
              clear hodd
              go_wp2_with fail
              go_ret2
              rw [← HR.out]
              exact ⟨⟨_, rfl, Kd.R_nil _ _ _ _ _⟩, Below.refl _ _⟩
            · rw [decide_eq_false hodd]
              have HM3 := Aside0.mk (show (if Lib.hasPrefix (s.data.toList.drop m) [45, 32] = true then (tl s (m + 2), lev m ++ [⟨sList, sBullet⟩]) else if Lib.hasPrefix (s.data.toList.drop m) [49, 46, 32] = true then (tl s (m + 3), lev m ++ [⟨sList, sNumber⟩]) else (s, [])) = R by rw [← HM2.out, if_neg hodd])
              have HO := Aside0.mk hodd
              clear hodd HM2
              obtain ⟨w0, rfl⟩ : ∃ w0, w0 = wc := ⟨_, rfl⟩
              go_upto_if 53 with fail
              go_cut [5] (fun v5 we => Aside0 (Kd.R k32 32 we w0.heap.size (fun _ => True) v5 (lev m)) ∧ Aside0 (Below w0.heap.size w0 we))
              case first =>
                have K : m = 0 ∨ m = 2 ∨ m = 4 ∨ m = 6 ∨ m = 8 ∨ m = 10 ∨ m = 12 ∨ m = 14 ∨ m = 16 := by have := HO.out; omega
                have HW := Aside0.mk (R_one w0 w0.heap.size (Nat.le_refl _) ⟨sLevel, digS (m / 2)⟩)
                rcases K with rfl | K
                · go_wp2_with fail
                  go_meet
                  case rel => exact ⟨⟨Kd.R_nil _ _ _ _ _⟩, ⟨Below.refl _ _⟩⟩
                · rcases K with rfl | rfl | rfl | rfl | rfl | rfl | rfl | rfl
                  all_goals
                    go_wp2_with fail
                    go_meet
                    case rel => exact ⟨⟨HW.out⟩, ⟨below_alloc (Below.refl _ _) _⟩⟩
              case rest =>
                obtain ⟨HL, HW⟩ := hcut
                have HLL := Aside0.mk (show (lev m).length ≤ 1 by unfold lev; split <;> simp)
                obtain ⟨b2, hb2⟩ : ∃ b, Lib.hasPrefix (s.data.toList.drop m) [45, 32] = b := ⟨_, rfl⟩
                have HB2 := Aside0.mk hb2
                rw [hb2] at HM3
                clear hb2
                cases b2
                · obtain ⟨b3, hb3⟩ : ∃ b, Lib.hasPrefix (s.data.toList.drop m) [49, 46, 32] = b := ⟨_, rfl⟩
                  have HB3 := Aside0.mk hb3
                  rw [hb3] at HM3
                  clear hb3
                  cases b3
                  · have HR := Aside0.mk (show (s, []) = R from HM3.out)
                    go_wp2_with (first
                      | (go_at_call_of 24 (Value.string ⟨#[45, 32]⟩); refine (cutP s ⟨#[45, 32]⟩ m false _ _ HB2.out rfl).mono ?_; rintro e w' ⟨rfl, rfl⟩)
                      | (go_at_call_of 24 (Value.string ⟨#[49, 46, 32]⟩); refine (cutP s ⟨#[49, 46, 32]⟩ m false _ _ HB3.out rfl).mono ?_; rintro e w' ⟨rfl, rfl⟩))
                    go_ret2
                    rw [← HR.out]
                    exact ⟨⟨_, rfl, Kd.R_nil _ _ _ _ _⟩, HW.out⟩
                  · have HR := Aside0.mk (show (tl s (m + 3), lev m ++ [⟨sList, sNumber⟩]) = R from HM3.out)
                    have HT := Aside0.mk (show (⟨(Lib.trimPrefix (s.data.toList.drop m) [49, 46, 32]).toArray⟩ : ByteArray) = tl s (m + 3) from cut_tl s [49, 46, 32] m HB3.out)
                    go_wp2_with (first
                      | (go_at_call_of 24 (Value.string ⟨#[45, 32]⟩); refine (cutP s ⟨#[45, 32]⟩ m false _ _ HB2.out rfl).mono ?_; rintro e w' ⟨rfl, rfl⟩)
                      | (go_at_call_of 24 (Value.string ⟨#[49, 46, 32]⟩); refine (cutP s ⟨#[49, 46, 32]⟩ m true _ _ HB3.out HT.out).mono ?_; rintro e w' ⟨rfl, rfl⟩)
                      | (at_builtin; refine Kd.R_append k32 (w0 := w0) w0.heap.size rfl (.tmp 83) (.tmp 85) 28 32 _ 32 rfl Tryd.underlying28 info32 rfl (by decide) (by decide) _ (lev m) ⟨sList, sNumber⟩ [.string sList, .string sNumber] (fun _ => True) (fun _ => False) rfl rfl (k32_mkM _ _ _ _) (fun _ h => h.elim) (fun _ _ => trivial) HL.out HW.out HW.out.size (by have := HLL.out; omega) ?_; intro v9 w9 ho9 hb9 hg9 hat9; have HO9 := Aside0.mk ho9; have HW9 := Aside0.mk hb9; clear ho9 hb9 hg9 hat9))
                    go_ret2
                    rw [← HR.out]
                    exact ⟨⟨_, rfl, HO9.out⟩, HW9.out⟩
                · have HR := Aside0.mk (show (tl s (m + 2), lev m ++ [⟨sList, sBullet⟩]) = R from HM3.out)
                  have HT := Aside0.mk (show (⟨(Lib.trimPrefix (s.data.toList.drop m) [45, 32]).toArray⟩ : ByteArray) = tl s (m + 2) from cut_tl s [45, 32] m HB2.out)
                  go_wp2_with (first
                    | (go_at_call_of 24 (Value.string ⟨#[45, 32]⟩); refine (cutP s ⟨#[45, 32]⟩ m true _ _ HB2.out HT.out).mono ?_; rintro e w' ⟨rfl, rfl⟩)
                    | (at_builtin; refine Kd.R_append k32 (w0 := w0) w0.heap.size rfl (.tmp 70) (.tmp 72) 28 32 _ 32 rfl Tryd.underlying28 info32 rfl (by decide) (by decide) _ (lev m) ⟨sList, sBullet⟩ [.string sList, .string sBullet] (fun _ => True) (fun _ => False) rfl rfl (k32_mkM _ _ _ _) (fun _ h => h.elim) (fun _ _ => trivial) HL.out HW.out HW.out.size (by have := HLL.out; omega) ?_; intro v9 w9 ho9 hb9 hg9 hat9; have HO9 := Aside0.mk ho9; have HW9 := Aside0.mk hb9; clear ho9 hb9 hg9 hat9))
                  go_ret2
                  rw [← HR.out]
                  exact ⟨⟨_, rfl, HO9.out⟩, HW9.out⟩
      · have hb := HB1.out
        rw [Bool.and_eq_true, decide_eq_true_eq] at hb
        have HR := Aside0.mk (show (tl s (n + 1), [⟨sHead, digS n⟩]) = R by rw [← HM.out, if_pos hb])
        have hn1 : n + 1 ≤ s.size := by
          have := pre_len hb.2
          simp only [List.length_drop, ← size_list, List.length_cons, List.length_nil] at this
          omega
        obtain ⟨⟨h1, h6⟩, hp⟩ := hb
        clear HM HB1 hp
        have K : n = 1 ∨ n = 2 ∨ n = 3 ∨ n = 4 ∨ n = 5 ∨ n = 6 := by omega
        have HW := Aside0.mk (R_one wc wc.heap.size (Nat.le_refl _) ⟨sHead, digS n⟩)
        have hn2 : (n : Int) + 1 ≤ (s.size : Int) := by omega
        rcases K with rfl | rfl | rfl | rfl | rfl | rfl
        all_goals
          go_wp2_with fail
          go_ret2
          rw [← HR.out]
          exact ⟨⟨_, rfl, HW.out⟩, below_alloc (Below.refl _ _) _⟩
end Go.Proofs.YtmjdeejccmcpnabDoor.Q
