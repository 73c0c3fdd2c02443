/- Marked: the reference's lines, in plain words; span, Has, Decimal. -/
import Derived.Test.YtmjdeejccmcpnabDoorI0
import Derived.Test.YtmjdeejccmcpnabDoorK0
import Derived.Test.YtmjdeejccmcpnabDoorQ69
import Derived.Test.YtmjdeejccmcpnabDoorQ71
import Derived.Test.YtmjdeejccmcpnabDoorQ72
namespace Go.Proofs.YtmjdeejccmcpnabDoor.Q
open Go.RowKit Go.Proofs.YtmjdeejccmcpnabDoorW.PrintWords Go.Proofs.YtmjdeejccmcpnabDoorW.PrintLast Go.Proofs.YtmjdeejccmcpnabDoorW.PrintMore
set_option linter.unusedVariables false
set_option linter.unusedSimpArgs false
set_option maxRecDepth 100000 in
theorem is35 (c : Int) (b : Bool) (hb : (c == 35) = b) (w : World) : Calls Tryd.prog 15 #[.int .u8 c] w fun e w' => e = .returned (.bool b) ∧ w' = w := by
  go_enter Tryd.func15, Tryd.ntmps15
  go_wp2
  go_ret
  exact ⟨rfl, rfl⟩
set_option maxRecDepth 100000 in
theorem is32 (c : Int) (b : Bool) (hb : (c == 32) = b) (w : World) : Calls Tryd.prog 16 #[.int .u8 c] w fun e w' => e = .returned (.bool b) ∧ w' = w := by
  go_enter Tryd.func16, Tryd.ntmps16
  go_wp2
  go_ret
  exact ⟨rfl, rfl⟩
theorem cnt_nil (c : UInt8) : cnt [] c = 0 := rfl
theorem cnt_cons (x : UInt8) (l : List UInt8) (c : UInt8) : cnt (x :: l) c = if x == c then cnt l c + 1 else 0 := by
  have h := trim_le l c
  unfold cnt at *
  unfold Lib.trimLeftB at *
  rw [List.dropWhile_cons]
  by_cases hx : x == c
  · rw [if_pos hx, if_pos hx, List.length_cons]
    omega
  · rw [if_neg hx, if_neg hx, List.length_cons]
    omega
theorem cnt_le (l : List UInt8) (c : UInt8) : cnt l c ≤ l.length := by unfold cnt; omega
theorem u8_eq (x c : UInt8) (n : Int) (hc : (c.toNat : Int) = n) (b : Bool) (h : (x == c) = b) : ((x.toNat : Int) == n) = b := by
  subst h hc
  rw [Bool.eq_iff_iff, beq_iff_eq, beq_iff_eq]
  exact ⟨fun h => UInt8.toNat_inj.1 (by omega), fun h => by rw [h]⟩
set_option maxHeartbeats 1000000 in
set_option maxRecDepth 100000 in
theorem span35 (s : ByteArray) (w : World) (hs : s.size ≤ 1048576) :
    Calls Tryd.prog 14 #[.string s, .func (.func 15) #[] #[]] w fun e w' => e = .returned (.int .i64 (cnt s.data.toList 35 : Int)) ∧ w' = w := by
  obtain ⟨R, hR⟩ : ∃ R, cnt s.data.toList 35 = R := ⟨_, rfl⟩
  rw [hR]
  have HR := Aside0.mk hR
  clear hR
  go_enter Tryd.func14, Tryd.ntmps14
  go_wp2_with fail
  go_loopg [8] s.size (fun gk v8 wr => ∃ k : Nat, k ≤ s.size ∧ s.size - k ≤ gk ∧ v8 = .int .i64 (k : Int) ∧ Aside0 (k + cnt (s.data.toList.drop k) 35 = R) ∧ wr = w)
  case atStart => exact ⟨0, by omega, by omega, rfl, ⟨by rw [List.drop_zero, Nat.zero_add]; exact HR.out⟩, rfl⟩
  case round =>
    clear HR
    obtain ⟨k, hk, hgk, rfl, HR, rfl⟩ := hrel
    by_cases hlt : k < s.size
    · have hkb : decide (k < s.size) = true := decide_eq_true hlt
      have hkp : ((k : Int) < (s.size : Int)) = True := eq_true (by omega)
      have HD := Aside0.mk (drop_cons s k hlt)
      obtain ⟨b, hb⟩ : ∃ b, (s[k]'hlt == 35) = b := ⟨_, rfl⟩
      have HB := Aside0.mk hb
      have HI := Aside0.mk (u8_eq (s[k]'hlt) 35 35 rfl b hb)
      clear hb
      cases b
      · have HQ := Aside0.mk (show R = k by rw [← HR.out, HD.out, cnt_cons, HB.out]; rfl)
        go_wp2_with (go_at_call 15; refine (is35 _ false HI.out _).mono ?_; rintro e w5 ⟨rfl, rfl⟩)
        go_ret
        exact ⟨by rw [HQ.out]; rfl, rfl⟩
      · have HQ := Aside0.mk (show k + 1 + cnt (s.data.toList.drop (k + 1)) 35 = R by rw [← HR.out, HD.out, cnt_cons, HB.out]; simp; omega)
        go_wp2_with (go_at_call 15; refine (is35 _ true HI.out _).mono ?_; rintro e w5 ⟨rfl, rfl⟩)
        go_roundg (s.size - (k + 1))
        case measure => omega
        case rel => exact ⟨k + 1, by omega, by omega, by go_num, HQ, rfl⟩
    · have HQ := Aside0.mk (show R = s.size by rw [← HR.out, drop_nil s k (by omega), cnt_nil]; omega)
      have hkb : decide (k < s.size) = false := decide_eq_false hlt
      clear hlt
      go_wp2_with fail
      go_ret
      exact ⟨by rw [HQ.out]; rfl, rfl⟩
set_option maxHeartbeats 1000000 in
set_option maxRecDepth 100000 in
theorem span32 (s : ByteArray) (w : World) (hs : s.size ≤ 1048576) :
    Calls Tryd.prog 14 #[.string s, .func (.func 16) #[] #[]] w fun e w' => e = .returned (.int .i64 (cnt s.data.toList 32 : Int)) ∧ w' = w := by
  obtain ⟨R, hR⟩ : ∃ R, cnt s.data.toList 32 = R := ⟨_, rfl⟩
  rw [hR]
  have HR := Aside0.mk hR
  clear hR
  go_enter Tryd.func14, Tryd.ntmps14
  go_wp2_with fail
  go_loopg [8] s.size (fun gk v8 wr => ∃ k : Nat, k ≤ s.size ∧ s.size - k ≤ gk ∧ v8 = .int .i64 (k : Int) ∧ Aside0 (k + cnt (s.data.toList.drop k) 32 = R) ∧ wr = w)
  case atStart => exact ⟨0, by omega, by omega, rfl, ⟨by rw [List.drop_zero, Nat.zero_add]; exact HR.out⟩, rfl⟩
  case round =>
    clear HR
    obtain ⟨k, hk, hgk, rfl, HR, rfl⟩ := hrel
    by_cases hlt : k < s.size
    · have hkb : decide (k < s.size) = true := decide_eq_true hlt
      have hkp : ((k : Int) < (s.size : Int)) = True := eq_true (by omega)
      have HD := Aside0.mk (drop_cons s k hlt)
      obtain ⟨b, hb⟩ : ∃ b, (s[k]'hlt == 32) = b := ⟨_, rfl⟩
      have HB := Aside0.mk hb
      have HI := Aside0.mk (u8_eq (s[k]'hlt) 32 32 rfl b hb)
      clear hb
      cases b
      · have HQ := Aside0.mk (show R = k by rw [← HR.out, HD.out, cnt_cons, HB.out]; rfl)
        go_wp2_with (go_at_call 16; refine (is32 _ false HI.out _).mono ?_; rintro e w5 ⟨rfl, rfl⟩)
        go_ret
        exact ⟨by rw [HQ.out]; rfl, rfl⟩
      · have HQ := Aside0.mk (show k + 1 + cnt (s.data.toList.drop (k + 1)) 32 = R by rw [← HR.out, HD.out, cnt_cons, HB.out]; simp; omega)
        go_wp2_with (go_at_call 16; refine (is32 _ true HI.out _).mono ?_; rintro e w5 ⟨rfl, rfl⟩)
        go_roundg (s.size - (k + 1))
        case measure => omega
        case rel => exact ⟨k + 1, by omega, by omega, by go_num, HQ, rfl⟩
    · have HQ := Aside0.mk (show R = s.size by rw [← HR.out, drop_nil s k (by omega), cnt_nil]; omega)
      have hkb : decide (k < s.size) = false := decide_eq_false hlt
      clear hlt
      go_wp2_with fail
      go_ret
      exact ⟨by rw [HQ.out]; rfl, rfl⟩
theorem extract_0 (s : ByteArray) (n : Nat) : (s.extract 0 n).data.toList = s.data.toList.take n := by
  have h : (s.extract 0 n).data = s.data.extract 0 n := by simp
  rw [h, Array.toList_extract]
  simp [List.extract_eq_take_drop]
theorem has_ok (s p : ByteArray) (b : Bool) (w : World) (h : Lib.hasPrefix s.data.toList p.data.toList = b) :
    Calls Tryd.prog 17 #[.string s, .string p] w fun e w' => e = .returned (.bool b) ∧ Below w.heap.size w w' := by
  refine (chanceryref2_Has.calls s p b w ?_).mono fun e w' hh => ⟨hh.1, hh.2.below⟩
  subst h
  unfold chanceryref2_Has.f
  by_cases h1 : p.size ≤ s.size
  · rw [if_pos (by omega), if_pos (by omega), if_pos (by omega)]
    congr 1
    rw [ByteArray.toList_eq, ByteArray.toList_eq, show ((p.size : Int)).toNat = p.size from rfl, extract_0, Bool.eq_iff_iff, beq_iff_eq]
    unfold Lib.hasPrefix
    rw [List.isPrefixOf_iff_prefix, List.prefix_iff_eq_take, size_list]
    exact ⟨fun h => h.symm, fun h => h.symm⟩
  · rw [if_neg (by omega)]
    congr 1
    symm
    rw [Bool.eq_false_iff]
    intro h
    have := pre_len h
    rw [← size_list, ← size_list] at this
    omega
theorem has_ext (s p : ByteArray) (k : Nat) (b : Bool) (w : World) (h : Lib.hasPrefix (s.data.toList.drop k) p.data.toList = b) :
    Calls Tryd.prog 17 #[.string (s.extract k s.size), .string p] w fun e w' => e = .returned (.bool b) ∧ Below w.heap.size w w' :=
  has_ok _ _ _ _ (by rw [ext_list]; exact h)
theorem decimal_ok (n : Nat) (h1 : n ≤ 8) (w : World) :
    Calls Tryd.prog 18 #[.int .i64 (n : Int)] w fun e w' => e = .returned (.string (digS n)) ∧ Below w.heap.size w w' := by
  refine chanceryref2_Decimal.calls 1 (n : Int) (digS n) w ?_
  have K : n = 0 ∨ n = 1 ∨ n = 2 ∨ n = 3 ∨ n = 4 ∨ n = 5 ∨ n = 6 ∨ n = 7 ∨ n = 8 := by omega
  unfold chanceryref2_Decimal.f
  rw [if_neg (by omega), if_neg (by omega), if_neg (by omega)]
  have e : wrap64 (48 + (n : Int)) % 256 = ((48 + n : Nat) : Int) := by unfold wrap64; omega
  rw [e]
  show some (⟨#[UInt8.ofNat ((48 + n : Nat) : Int).toNat]⟩ : ByteArray) = _
  rw [Int.toNat_natCast]
  rfl
end Go.Proofs.YtmjdeejccmcpnabDoor.Q
