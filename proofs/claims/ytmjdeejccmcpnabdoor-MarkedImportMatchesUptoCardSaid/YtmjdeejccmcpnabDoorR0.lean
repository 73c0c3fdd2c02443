/- The plain law: the program's Import and the reference's Marked answer alike at every text of at most 1048576 bytes; and the law's walk. -/
import Derived.Test.YtmjdeejccmcpnabDoorQ73
import Derived.Test.YtmjdeejccmcpnabDoorF0
import Derived.Test.YtmjdeejccmcpnabDoorQ75
import Derived.Test.YtmjdeejccmcpnabDoorI0
import Derived.Test.YtmjdeejccmcpnabDoorK0
import Derived.Test.YtmjdeejccmcpnabDoorL1
import Derived.Test.YtmjdeejccmcpnabDoorL2
import Derived.Test.YtmjdeejccmcpnabDoorQ68
import Derived.Test.YtmjdeejccmcpnabDoorQ80
import Derived.Test.YtmjdeejccmcpnabDoorQ81
namespace Go.Proofs.YtmjdeejccmcpnabDoor.Q
open Go.RowKit Go.Proofs.YtmjdeejccmcpnabDoorW.PrintWords Go.Proofs.YtmjdeejccmcpnabDoorW.PrintLast Go.Proofs.YtmjdeejccmcpnabDoorW.PrintMore
set_option linter.unusedVariables false
set_option linter.unusedSimpArgs false
/-! ### The plain law, second part: the reference's Rune is the decoder. -/
theorem and192_all : (List.range 256).all (fun b => decide (bits .and .u8 ((b : Nat) : Int) 192 = 128) == decide (b / 64 = 2)) = true := by kernel_rfl
theorem and192 (b : Nat) (h : b < 256) : bits .and .u8 (b : Int) 192 = 128 ↔ b / 64 = 2 := by
  have := List.all_eq_true.1 and192_all b (List.mem_range.2 h)
  rw [beq_iff_eq] at this
  exact decide_eq_decide.1 this
theorem wraps_i64 (n : Int) (h₀ : 0 ≤ n) (h₁ : n < 2 ^ 40) : IntKind.i64.wrap n = n := by rw [IntKind.wrap_i64]; omega
theorem or6 (x y : Int) (h0 : 0 ≤ x) (h1 : x < 100000000) (h2 : 0 ≤ y) (h3 : y < 64) : bits .or .i64 (x * 64) y = x * 64 + y :=
  bits_join .i64 40 (by decide) wraps_i64 6 (x * 64) y (by omega) (by omega) (by omega) h2 (by omega) (by omega)
theorem and31 (x : Int) (h0 : 0 ≤ x) (h1 : x < 256) : bits .and .i64 x 31 = x % 32 := bits_mask .i64 40 (by decide) wraps_i64 5 (by decide) x h0 (by omega)
theorem and15 (x : Int) (h0 : 0 ≤ x) (h1 : x < 256) : bits .and .i64 x 15 = x % 16 := bits_mask .i64 40 (by decide) wraps_i64 4 (by decide) x h0 (by omega)
theorem and7 (x : Int) (h0 : 0 ≤ x) (h1 : x < 256) : bits .and .i64 x 7 = x % 8 := bits_mask .i64 40 (by decide) wraps_i64 3 (by decide) x h0 (by omega)
def finR (x n mn : Int) : Int × Int := if x < mn ∨ (55296 ≤ x ∧ x < 57344) ∨ 1114111 < x then (0, 0) else (x, n)
theorem rl_end (k : Nat) (s : ByteArray) (x n mn i : Int) (h : ¬ i < n) : chanceryref2_Rune.l0 (k + 1) s x n mn i = some (finR x n mn) := by
  simp only [chanceryref2_Rune.l0]
  rw [if_neg h]
  unfold finR
  repeat' split
  all_goals first | rfl | omega
theorem bt_nat (s : ByteArray) (i : Nat) (h : i < s.size) : bt s (i : Int) = ((s.get! i).toNat : Int) := by
  unfold bt
  rw [dif_pos (by simpa using h)]
  congr 2
  simp [ByteArray.get!, ByteArray.getElem_eq_getElem_data, h]
theorem rl_step (k : Nat) (s : ByteArray) (x n mn : Int) (i : Nat) (h : (i : Int) < n) (hi : i < s.size) (h0 : 0 ≤ x) (h1 : x < 1000000) (hi2 : i < 4) :
    chanceryref2_Rune.l0 (k + 1) s x n mn (i : Int) = if (s.get! i).toNat / 64 = 2 then chanceryref2_Rune.l0 k s (x * 64 + ((s.get! i).toNat % 64 : Nat)) n mn ((i + 1 : Nat) : Int) else some (0, 0) := by
  have hb := UInt8.toNat_lt (s.get! i)
  obtain ⟨b, hbb⟩ : ∃ b, (s.get! i).toNat = b := ⟨_, rfl⟩
  rw [hbb] at hb
  have o6 := or6 x ((b : Int) % 64) h0 (by omega) (by omega) (by omega)
  have e64 : ((b % 64 : Nat) : Int) = (b : Int) % 64 := by omega
  have ei : (0 : Int) ≤ (i : Int) := by omega
  have es : (i : Int) < (s.size : Int) := by omega
  have hw : wrap64 ((i : Int) + 1) = ((i + 1 : Nat) : Int) := by clear o6; unfold wrap64; omega
  have hw2 : wrap64 (x * 64) = x * 64 := by clear o6 hw; unfold wrap64; omega
  have ha : bits .and .u8 (b : Int) 63 = (b : Int) % 64 := u8_and63 (b : Int) (by clear o6 hw hw2; omega) (by clear o6 hw hw2; omega)
  have hw3 : wrap64 ((b : Int) % 64) = (b : Int) % 64 := by clear o6 hw hw2 ha; unfold wrap64; omega
  simp only [chanceryref2_Rune.l0]
  rw [if_pos h, if_pos ei, if_pos es, bt_nat s i hi, hbb, hw, hw2, ha, hw3, e64]
  by_cases hc : b / 64 = 2
  · rw [if_pos ((and192 b hb).2 hc), if_pos hc, o6]
  · rw [if_neg (fun h => hc ((and192 b hb).1 h)), if_neg hc]
/-- what the reference makes of what the decoder gives -/
def rv (d : Nat × Nat) : Int × Int := if d.1 = 65533 ∧ d.2 = 1 then (0, 0) else ((d.1 : Int), (d.2 : Int))
theorem rv_none {d : Nat × Nat} (h : d = (65533, 1)) : rv d = (0, 0) := by subst h; rfl
theorem rv_some {c n : Nat} (h : c ≠ 65533 ∨ n ≠ 1) : rv (c, n) = ((c : Int), (n : Int)) := if_neg (fun hh => h.elim (fun h1 => h1 hh.1) (fun h1 => h1 hh.2))
theorem two (k : Nat) (s : ByteArray) (b0 : Nat) (h : b0 = (s.get! 0).toNat) (hb : 194 ≤ b0 ∧ b0 < 224) : chanceryref2_Rune.j2 (k + 4) s ((b0 : Int) % 32) 2 128 = some (rv (Lib.decodeN s.size b0 (s.get! 1).toNat (s.get! 2).toNat (s.get! 3).toNat)) := by
  have hb1 := UInt8.toNat_lt (s.get! 1)
  obtain ⟨b1, hb1e⟩ : ∃ b, (s.get! 1).toNat = b := ⟨_, rfl⟩
  rw [hb1e] at hb1 ⊢
  simp only [chanceryref2_Rune.j2]
  unfold Lib.decodeN
  rw [if_neg (show ¬ b0 < 128 by omega)]
  by_cases hn : s.size < 2
  · rw [if_pos (by omega), if_neg (by omega), if_neg (by omega), if_neg (by omega)]
    rfl
  · rw [if_neg (by omega)]
    have h1 := rl_step (k + 2) s ((b0 : Int) % 32) 2 128 1 (by omega) (by omega) (by omega) (by omega) (by omega)
    rw [hb1e] at h1
    rw [show (1 : Int) = ((1 : Nat) : Int) from rfl, h1]
    by_cases hc : b1 / 64 = 2
    · rw [if_pos hc, rl_end _ _ _ _ _ _ (by omega), if_pos (by omega), if_pos (by omega), rv_some (.inr (by omega))]
      unfold finR
      rw [if_neg (by omega)]
      congr 2
    · rw [if_neg hc, if_neg (by omega), if_neg (by omega), if_neg (by omega)]
      rfl
theorem three (k : Nat) (s : ByteArray) (b0 : Nat) (h : b0 = (s.get! 0).toNat) (hb : 224 ≤ b0 ∧ b0 < 240) : chanceryref2_Rune.j2 (k + 5) s ((b0 : Int) % 16) 3 2048 = some (rv (Lib.decodeN s.size b0 (s.get! 1).toNat (s.get! 2).toNat (s.get! 3).toNat)) := by
  have hb1 := UInt8.toNat_lt (s.get! 1)
  have hb2 := UInt8.toNat_lt (s.get! 2)
  obtain ⟨b1, hb1e⟩ : ∃ b, (s.get! 1).toNat = b := ⟨_, rfl⟩
  obtain ⟨b2, hb2e⟩ : ∃ b, (s.get! 2).toNat = b := ⟨_, rfl⟩
  rw [hb1e] at hb1 ⊢
  rw [hb2e] at hb2 ⊢
  simp only [chanceryref2_Rune.j2]
  unfold Lib.decodeN
  rw [if_neg (show ¬ b0 < 128 by omega), if_neg (show ¬ (b0 / 32 = 6 ∧ (1 < s.size ∧ b1 / 64 = 2)) by omega)]
  by_cases hn : s.size < 3
  · rw [if_pos (by omega), if_neg (by omega), if_neg (by omega)]
    rfl
  · rw [if_neg (by omega)]
    have h1 := rl_step (k + 3) s ((b0 : Int) % 16) 3 2048 1 (by omega) (by omega) (by omega) (by omega) (by omega)
    rw [hb1e] at h1
    rw [show (1 : Int) = ((1 : Nat) : Int) from rfl, h1]
    by_cases hc : b1 / 64 = 2
    · have h2 := rl_step (k + 2) s ((b0 : Int) % 16 * 64 + ((b1 % 64 : Nat) : Int)) 3 2048 2 (by omega) (by omega) (by omega) (by omega) (by omega)
      rw [hb2e] at h2
      rw [if_pos hc, h2]
      by_cases hc2 : b2 / 64 = 2
      · rw [if_pos hc2, rl_end _ _ _ _ _ _ (by omega), if_pos (by omega)]
        obtain ⟨v, hv⟩ : ∃ v, b0 % 16 * 4096 + b1 % 64 * 64 + b2 % 64 = v := ⟨_, rfl⟩
        have hv2 : ((b0 : Int) % 16 * 64 + ((b1 % 64 : Nat) : Int)) * 64 + ((b2 % 64 : Nat) : Int) = (v : Int) := by omega
        rw [hv, hv2]
        unfold finR
        by_cases hg : v ≥ 2048 ∧ (v < 55296 ∨ (57344 ≤ v ∧ v ≤ 1114111))
        · rw [if_pos hg, if_neg (by omega), rv_some (.inr (by omega))]
          rfl
        · rw [if_neg hg, if_pos (by omega)]
          rfl
      · rw [if_neg hc2, if_neg (by omega), if_neg (by omega)]
        rfl
    · rw [if_neg hc, if_neg (by omega), if_neg (by omega)]
      rfl
theorem four (k : Nat) (s : ByteArray) (b0 : Nat) (h : b0 = (s.get! 0).toNat) (hb : 240 ≤ b0 ∧ b0 < 245) : chanceryref2_Rune.j2 (k + 6) s ((b0 : Int) % 8) 4 65536 = some (rv (Lib.decodeN s.size b0 (s.get! 1).toNat (s.get! 2).toNat (s.get! 3).toNat)) := by
  have hb1 := UInt8.toNat_lt (s.get! 1)
  have hb2 := UInt8.toNat_lt (s.get! 2)
  have hb3 := UInt8.toNat_lt (s.get! 3)
  obtain ⟨b1, hb1e⟩ : ∃ b, (s.get! 1).toNat = b := ⟨_, rfl⟩
  obtain ⟨b2, hb2e⟩ : ∃ b, (s.get! 2).toNat = b := ⟨_, rfl⟩
  obtain ⟨b3, hb3e⟩ : ∃ b, (s.get! 3).toNat = b := ⟨_, rfl⟩
  rw [hb1e] at hb1 ⊢
  rw [hb2e] at hb2 ⊢
  rw [hb3e] at hb3 ⊢
  simp only [chanceryref2_Rune.j2]
  unfold Lib.decodeN
  rw [if_neg (show ¬ b0 < 128 by omega), if_neg (show ¬ (b0 / 32 = 6 ∧ (1 < s.size ∧ b1 / 64 = 2)) by omega), if_neg (show ¬ (b0 / 16 = 14 ∧ (1 < s.size ∧ b1 / 64 = 2) ∧ (2 < s.size ∧ b2 / 64 = 2)) by omega)]
  by_cases hn : s.size < 4
  · rw [if_pos (by omega), if_neg (by omega)]
    rfl
  · rw [if_neg (by omega)]
    have h1 := rl_step (k + 4) s ((b0 : Int) % 8) 4 65536 1 (by omega) (by omega) (by omega) (by omega) (by omega)
    rw [hb1e] at h1
    rw [show (1 : Int) = ((1 : Nat) : Int) from rfl, h1]
    by_cases hc : b1 / 64 = 2
    · have h2 := rl_step (k + 3) s ((b0 : Int) % 8 * 64 + ((b1 % 64 : Nat) : Int)) 4 65536 2 (by omega) (by omega) (by omega) (by omega) (by omega)
      rw [hb2e] at h2
      rw [if_pos hc, h2]
      by_cases hc2 : b2 / 64 = 2
      · have h3 := rl_step (k + 2) s (((b0 : Int) % 8 * 64 + ((b1 % 64 : Nat) : Int)) * 64 + ((b2 % 64 : Nat) : Int)) 4 65536 3 (by omega) (by omega) (by omega) (by omega) (by omega)
        rw [hb3e] at h3
        rw [if_pos hc2, h3]
        by_cases hc3 : b3 / 64 = 2
        · rw [if_pos hc3, rl_end _ _ _ _ _ _ (by omega), if_pos (by omega)]
          obtain ⟨v, hv⟩ : ∃ v, b0 % 8 * 262144 + b1 % 64 * 4096 + b2 % 64 * 64 + b3 % 64 = v := ⟨_, rfl⟩
          have hv2 : (((b0 : Int) % 8 * 64 + ((b1 % 64 : Nat) : Int)) * 64 + ((b2 % 64 : Nat) : Int)) * 64 + ((b3 % 64 : Nat) : Int) = (v : Int) := by omega
          rw [hv, hv2]
          unfold finR
          by_cases hg : v ≥ 65536 ∧ (v < 55296 ∨ (57344 ≤ v ∧ v ≤ 1114111))
          · rw [if_pos hg, if_neg (by omega), rv_some (.inr (by omega))]
            rfl
          · rw [if_neg hg, if_pos (by omega)]
            rfl
        · rw [if_neg hc3, if_neg (by omega)]
          rfl
      · rw [if_neg hc2, if_neg (by omega)]
        rfl
    · rw [if_neg hc, if_neg (by omega)]
      rfl
theorem rune_eq (s : ByteArray) (h0 : 0 < s.size) : chanceryref2_Rune.f 10 s = some (rv (Lib.decodeGo s)) := by
  unfold Lib.decodeGo
  rw [if_neg (by omega), Lib.decode_at]
  simp only [Nat.sub_zero, Nat.zero_add]
  have hb0 := UInt8.toNat_lt (s.get! 0)
  have hbt : bt s 0 = ((s.get! 0).toNat : Int) := bt_nat s 0 h0
  obtain ⟨b0, hb0e⟩ : ∃ b, (s.get! 0).toNat = b := ⟨_, rfl⟩
  rw [hb0e] at hb0 hbt ⊢
  have hw : wrap64 (b0 : Int) = (b0 : Int) := by clear hbt; unfold wrap64; omega
  have a31 : bits .and .i64 (b0 : Int) 31 = (b0 : Int) % 32 := and31 _ (by clear hw hbt; omega) (by clear hw hbt; omega)
  have a15 : bits .and .i64 (b0 : Int) 15 = (b0 : Int) % 16 := and15 _ (by clear hw hbt a31; omega) (by clear hw hbt a31; omega)
  have a7 : bits .and .i64 (b0 : Int) 7 = (b0 : Int) % 8 := and7 _ (by clear hw hbt a31 a15; omega) (by clear hw hbt a31 a15; omega)
  unfold chanceryref2_Rune.f
  rw [if_pos (show (0 : Int) < (s.size : Int) by clear hw hbt a31 a15 a7; omega), hbt, hw]
  clear hw hbt
  by_cases c1 : b0 < 128
  · clear a31 a15 a7
    rw [if_pos (by omega)]
    unfold Lib.decodeN
    rw [if_pos c1, rv_some (.inl (by omega))]
    rfl
  · rw [if_neg (show ¬ (b0 : Int) < 128 by clear a31 a15 a7; omega)]
    by_cases c2 : 194 ≤ b0
    · rw [if_pos (show (b0 : Int) ≥ 194 by clear a31 a15 a7; omega)]
      simp only [chanceryref2_Rune.j0]
      by_cases c3 : b0 < 224
      · rw [decide_eq_true (show (b0 : Int) < 224 by clear a31 a15 a7; omega), if_pos rfl, a31]
        exact two 5 s b0 hb0e.symm ⟨c2, c3⟩
      · rw [decide_eq_false (show ¬ (b0 : Int) < 224 by clear a31 a15 a7; omega), if_neg (by decide), if_pos (show (b0 : Int) ≥ 224 by clear a31 a15 a7; omega)]
        simp only [chanceryref2_Rune.j1]
        by_cases c4 : b0 < 240
        · rw [decide_eq_true (show (b0 : Int) < 240 by clear a31 a15 a7; omega), if_pos rfl, a15]
          exact three 3 s b0 hb0e.symm ⟨by omega, c4⟩
        · rw [decide_eq_false (show ¬ (b0 : Int) < 240 by clear a31 a15 a7; omega), if_neg (by decide), if_pos (show (b0 : Int) ≥ 240 by clear a31 a15 a7; omega)]
          by_cases c5 : b0 < 245
          · rw [if_pos (show (b0 : Int) < 245 by clear a31 a15 a7; omega), a7]
            exact four 2 s b0 hb0e.symm ⟨by omega, c5⟩
          · clear a31 a15 a7
            rw [if_neg (by omega)]
            unfold Lib.decodeN
            rw [if_neg c1, if_neg (by omega), if_neg (by omega)]
            split
            · rw [if_neg (by omega)]; rfl
            · rfl
    · clear a31 a15 a7
      rw [if_neg (by omega)]
      simp only [chanceryref2_Rune.j0]
      rw [if_neg (by decide)]
      unfold Lib.decodeN
      rw [if_neg c1]
      have e3 : ∀ (b1 b2 : Nat), ¬ (b0 / 16 = 14 ∧ (1 < s.size ∧ b1 / 64 = 2) ∧ (2 < s.size ∧ b2 / 64 = 2)) := by intro b1 b2; omega
      have e4 : ∀ (b1 b2 b3 : Nat), ¬ (b0 / 8 = 30 ∧ (1 < s.size ∧ b1 / 64 = 2) ∧ (2 < s.size ∧ b2 / 64 = 2) ∧ (3 < s.size ∧ b3 / 64 = 2)) := by intro b1 b2 b3; omega
      rw [if_neg (e3 _ _), if_neg (e4 _ _ _)]
      have hq : (if (b0 : Int) ≥ 224 then chanceryref2_Rune.j1 9 s (b0 : Int) (decide ((b0 : Int) < 240)) else chanceryref2_Rune.j1 9 s (b0 : Int) false) = some (0, 0) := by
        rw [if_neg (by omega)]
        simp only [chanceryref2_Rune.j1]
        rw [if_neg (by decide), if_neg (by omega)]
      rw [hq]
      split
      · rw [if_neg (by omega)]; rfl
      · rfl
/-! ### The plain law, third part: the reference's tokens, in plain words. -/
theorem ba_ext0 {s t : ByteArray} (h : s.data.toList = t.data.toList) : s = t := by
  cases s; cases t
  congr 1
  exact Array.toList_inj.1 h
theorem ref_Char_eq (c : Int) : chanceryref2_Char.f c = some (charB c) := by
  unfold chanceryref2_Char.f charB
  repeat' split
  all_goals (congr 1; first | (symm; exact decide_eq_true (by omega)) | (symm; exact decide_eq_false (by omega)) | (exact decide_eq_decide.2 (by omega)))
theorem rune_k (s : ByteArray) (h0 : 0 < s.size) (k : Nat) (hk : 10 ≤ k) : chanceryref2_Rune.f k s = some (rv (Lib.decodeGo s)) := by
  obtain ⟨d, rfl⟩ : ∃ d, k = 10 + d := ⟨k - 10, by omega⟩
  clear hk
  induction d with
  | zero => exact rune_eq s h0
  | succ d ih => exact chanceryref2_Rune.mono _ _ _ ih
def escB (s : ByteArray) : Bool := decide (hd s = 92 ∧ 1 < s.size)
/-- where a token's character begins -/
def inn (s : ByteArray) : ByteArray := if escB s = true then tl s 1 else s
def tokOf (s : ByteArray) : S66 := ⟨if chBad (inn s) = true then 63 else ((Lib.decodeGo (inn s)).1 : Int), (if escB s = true then 1 else 0) + ((Lib.decodeGo (inn s)).2 : Int), escB s, chBad (inn s)⟩
def tokW (s : ByteArray) : Nat := (if escB s = true then 1 else 0) + (Lib.decodeGo (inn s)).2
def toksF : Nat → ByteArray → List S66
  | 0, _ => []
  | n + 1, s => if s.size = 0 then [] else tokOf s :: toksF n (tl s (tokW s))
def toks (s : ByteArray) : List S66 := toksF s.size s
theorem inn_pos (s : ByteArray) (h : 0 < s.size) : 0 < (inn s).size := by
  unfold inn
  split
  · rename_i he
    have := (of_decide_eq_true he).2
    rw [tl_size]
    omega
  · exact h
theorem tokW_pos (s : ByteArray) (h : 0 < s.size) : 1 ≤ tokW s := by
  have := dec_pos (inn s) (inn_pos s h)
  unfold tokW
  omega
theorem tokW_le (s : ByteArray) (h : 0 < s.size) : tokW s ≤ s.size := by
  have h1 := dec_size (inn s)
  unfold tokW
  unfold inn at *
  split
  · rename_i he
    have h2 := (of_decide_eq_true he).2
    rw [if_pos he, tl_size] at h1
    omega
  · rename_i he
    rw [if_neg he] at h1
    omega
theorem toksF_enough : ∀ (n m : Nat) (s : ByteArray), s.size ≤ n → s.size ≤ m → toksF n s = toksF m s
  | 0, m, s, hn, hm => by
    have h0 : s.size = 0 := by omega
    cases m with
    | zero => rfl
    | succ m => exact (if_pos h0).symm
  | n + 1, 0, s, hn, hm => by
    have h0 : s.size = 0 := by omega
    exact if_pos h0
  | n + 1, m + 1, s, hn, hm => by
    by_cases h0 : s.size = 0
    · exact (if_pos h0).trans (if_pos h0).symm
    · have h1 := tokW_pos s (by omega)
      have e := toksF_enough n m (tl s (tokW s)) (by rw [tl_size]; omega) (by rw [tl_size]; omega)
      show (if s.size = 0 then [] else tokOf s :: toksF n (tl s (tokW s))) = (if s.size = 0 then [] else tokOf s :: toksF m (tl s (tokW s)))
      rw [e]
theorem toks_nil (s : ByteArray) (h : s.size = 0) : toks s = [] := by unfold toks; rw [h]; rfl
theorem toks_cons (s : ByteArray) (h : 0 < s.size) : toks s = tokOf s :: toks (tl s (tokW s)) := by
  obtain ⟨n, hn⟩ : ∃ n, s.size = n + 1 := ⟨s.size - 1, by omega⟩
  have h1 := tokW_pos s h
  unfold toks
  rw [hn]
  show (if s.size = 0 then [] else tokOf s :: toksF n (tl s (tokW s))) = _
  rw [if_neg (by omega), toksF_enough n (tl s (tokW s)).size _ (by rw [tl_size]; omega) (Nat.le_refl _)]
theorem toks_len : ∀ (n : Nat) (s : ByteArray), s.size ≤ n → (toks s).length ≤ s.size
  | 0, s, h => by rw [toks_nil s (by omega)]; exact Nat.zero_le _
  | n + 1, s, h => by
    rcases Nat.eq_zero_or_pos s.size with h0 | h0
    · rw [toks_nil s h0]; exact Nat.zero_le _
    · have h1 := tokW_pos s h0
      have h2 := tokW_le s h0
      have h3 := toks_len n (tl s (tokW s)) (by rw [tl_size]; omega)
      rw [toks_cons s h0, List.length_cons]
      rw [tl_size] at h3
      omega
theorem tk_j2 (k : Nat) (s : ByteArray) (acc : List S66) (i : Nat) (f0 : Int) (e : Bool) (hk : 10 ≤ k) (hi : i < s.size) (hs : s.size ≤ 1048576) (hl : acc.length < 5864062014805) :
    chanceryref2_tokens.j2 (k + 1) s acc (i : Int) f0 (if e = true then 1 else 0) e false = chanceryref2_tokens.l0 k s (acc ++ [⟨if chBad (tl s i) = true then 63 else ((Lib.decodeGo (tl s i)).1 : Int), (if e = true then 1 else 0) + ((Lib.decodeGo (tl s i)).2 : Int), e, chBad (tl s i)⟩]) ((i + (Lib.decodeGo (tl s i)).2 : Nat) : Int) := by
  have hp : 0 < (tl s i).size := by rw [tl_size]; omega
  have h1 := dec_pos (tl s i) hp
  have h2 := dec_size (tl s i)
  rw [tl_size] at h2
  have hr := rune_k (tl s i) hp k hk
  simp only [chanceryref2_tokens.j2]
  rw [if_pos (show (0 : Int) ≤ (i : Int) by omega), if_pos (show (i : Int) ≤ (s.size : Int) by omega), Int.toNat_natCast]
  rw [show s.extract i s.size = tl s i from rfl, hr]
  simp only [Option.bind_some]
  obtain ⟨c, hc⟩ : ∃ c, (Lib.decodeGo (tl s i)).1 = c := ⟨_, rfl⟩
  obtain ⟨n, hn⟩ : ∃ n, (Lib.decodeGo (tl s i)).2 = n := ⟨_, rfl⟩
  have hbd : chBad (tl s i) = (((c : Int) == 65533 && (n : Int) == 1) || !charB (c : Int)) := by unfold chBad; rw [hc, hn]
  rw [hn] at h1 h2
  have hd : Lib.decodeGo (tl s i) = (c, n) := Prod.ext hc hn
  rw [hd]
  simp only
  obtain ⟨z, hz⟩ : ∃ z : Int, (if e = true then (1 : Int) else 0) = z := ⟨_, rfl⟩
  have hz2 : 0 ≤ z ∧ z ≤ 1 := by rw [← hz]; split <;> omega
  rw [hz]
  by_cases hbad : c = 65533 ∧ n = 1
  · have hb2 : chBad (tl s i) = true := by
      rw [hbd, beq_iff_eq.2 (show (c : Int) = 65533 by omega), beq_iff_eq.2 (show (n : Int) = 1 by omega)]
      rfl
    have e1 : rv (c, n) = (0, 0) := if_pos hbad
    have m1 : mx 0 1 = 1 := by unfold mx; rfl
    rw [e1, if_pos rfl, if_pos hl, hb2, if_pos rfl]
    simp only
    rw [m1, hbad.2]
    have w1 : wrap64 (z + 1) = z + 1 := by unfold wrap64; omega
    have w2 : wrap64 ((i : Int) + 1) = ((i + 1 : Nat) : Int) := by unfold wrap64; omega
    rw [w1, w2]
    rfl
  · have e1 : rv (c, n) = ((c : Int), (n : Int)) := if_neg hbad
    have hb3 : ((c : Int) == 65533 && (n : Int) == 1) = false := by
      rw [Bool.and_eq_false_iff, beq_eq_false_iff_ne, beq_eq_false_iff_ne]
      omega
    rw [hb3, Bool.false_or] at hbd
    rw [e1]
    simp only
    rw [if_neg (show ¬ (n : Int) = 0 by omega), ref_Char_eq]
    simp only [Option.bind_some]
    have w1 : wrap64 (z + (n : Int)) = z + (n : Int) := by unfold wrap64; omega
    have w2 : wrap64 ((i : Int) + (n : Int)) = ((i + n : Nat) : Int) := by unfold wrap64; omega
    have m1 : mx (n : Int) 1 = (n : Int) := by unfold mx; omega
    cases hcb : charB (c : Int)
    · rw [hcb] at hbd
      rw [if_neg (by decide), if_pos hl, m1, w1, w2, hbd]
      rfl
    · rw [hcb] at hbd
      rw [if_pos rfl, if_pos hl, w1, w2, hbd]
      rfl
theorem tl_tl0 (s : ByteArray) (a b : Nat) : tl (tl s a) b = tl s (a + b) := by
  refine ba_ext0 ?_
  rw [tl_list, tl_list, tl_list, List.drop_drop]
theorem tk_run (s : ByteArray) (hs : s.size ≤ 1048576) (d : Nat) : ∀ (k i : Nat) (acc : List S66), s.size - i ≤ d → 3 * d + 20 ≤ k → i ≤ s.size → acc.length ≤ i →
    chanceryref2_tokens.l0 k s acc (i : Int) = some (acc ++ toks (tl s i)) := by
  induction d with
  | zero =>
    intro k i acc hdd hk hi hacc
    obtain ⟨k, rfl⟩ : ∃ m, k = m + 1 := ⟨k - 1, by omega⟩
    simp only [chanceryref2_tokens.l0]
    rw [if_neg (by omega), toks_nil _ (by rw [tl_size]; omega), List.append_nil]
  | succ d ih =>
    intro k i acc hdd hk hi hacc
    obtain ⟨k, rfl⟩ : ∃ m, k = m + 3 := ⟨k - 3, by omega⟩
    have hk10 : 10 ≤ k := by omega
    have hal : acc.length < 5864062014805 := by omega
    have hi0 : (0 : Int) ≤ (i : Int) := by omega
    by_cases hlt : i < s.size
    · have hp : 0 < (tl s i).size := by rw [tl_size]; omega
      have h1 := tokW_pos (tl s i) hp
      have h2 := tokW_le (tl s i) hp
      rw [tl_size] at h2
      have hii : (i : Int) < (s.size : Int) := by omega
      have hb : bt s (i : Int) = (hd (tl s i) : Int) := by
        rw [hd_at _ hp, bt_nat s i hlt]
        have e := drop_cons s i hlt
        have e2 := drop_cons (tl s i) 0 hp
        rw [List.drop_zero, tl_list, e] at e2
        rw [← (List.cons.inj e2).1]
        simp [ByteArray.get!, ByteArray.getElem_eq_getElem_data, hlt]
      have hr0 := ih k (i + tokW (tl s i)) (acc ++ [tokOf (tl s i)]) (by omega) (by omega) (by omega) (by rw [List.length_append, List.length_singleton]; omega)
      have hfin : some (acc ++ [tokOf (tl s i)] ++ toks (tl s (i + tokW (tl s i)))) = some (acc ++ toks (tl s i)) := by
        rw [toks_cons (tl s i) hp, tl_tl0, List.append_assoc, List.singleton_append]
      have hr := hr0.trans hfin
      clear hfin hr0
      have hw : wrap64 ((i : Int) + 1) = ((i + 1 : Nat) : Int) := by clear hb hr; unfold wrap64; omega
      simp only [chanceryref2_tokens.l0]
      rw [if_pos hii, if_pos hi0, hb, hw]
      clear hb
      cases hesc : escB (tl s i)
      · have hin : inn (tl s i) = tl s i := by unfold inn; rw [hesc]; rfl
        have ht : tokOf (tl s i) = ⟨if chBad (tl s i) = true then 63 else ((Lib.decodeGo (tl s i)).1 : Int), (if false = true then 1 else 0) + ((Lib.decodeGo (tl s i)).2 : Int), false, chBad (tl s i)⟩ := by unfold tokOf; rw [hin, hesc]
        have hW : tokW (tl s i) = (Lib.decodeGo (tl s i)).2 := by unfold tokW; rw [hin, hesc]; exact Nat.zero_add _
        have hj := tk_j2 k s acc i 0 false hk10 hlt hs hal
        rw [← ht, ← hW, hr] at hj
        have hne := of_decide_eq_false hesc
        have hj1 : ∀ b, b = false → chanceryref2_tokens.j1 (k + 2) s acc (i : Int) b 0 0 false false = some (acc ++ toks (tl s i)) := by
          intro b hbf
          subst hbf
          simp only [chanceryref2_tokens.j1]
          rw [if_neg (by decide)]
          exact hj
        by_cases h92 : hd (tl s i) = 92
        · rw [if_pos (show (hd (tl s i) : Int) = 92 by rw [h92]; rfl)]
          refine hj1 _ (decide_eq_false ?_)
          intro h3
          refine hne ⟨h92, ?_⟩
          rw [tl_size]
          clear hw hj hj1 hr ht hW
          omega
        · rw [if_neg (show ¬ (hd (tl s i) : Int) = 92 by clear hw hj hj1 hr ht hW; omega)]
          exact hj1 _ rfl
      · have hye := of_decide_eq_true hesc
        have h2s := hye.2
        rw [tl_size] at h2s
        have hi1 : i + 1 < s.size := by clear hw hr; omega
        have hi2 : ((i + 1 : Nat) : Int) < (s.size : Int) := by clear hw hr; omega
        have hin : inn (tl s i) = tl s (i + 1) := by unfold inn; rw [hesc, if_pos rfl, tl_tl0]
        have ht : tokOf (tl s i) = ⟨if chBad (tl s (i + 1)) = true then 63 else ((Lib.decodeGo (tl s (i + 1))).1 : Int), (if true = true then 1 else 0) + ((Lib.decodeGo (tl s (i + 1))).2 : Int), true, chBad (tl s (i + 1))⟩ := by unfold tokOf; rw [hin, hesc]
        have hW : i + tokW (tl s i) = i + 1 + (Lib.decodeGo (tl s (i + 1))).2 := by unfold tokW; rw [hin, hesc, if_pos rfl]; clear hw hr ht; omega
        have hj := tk_j2 k s acc (i + 1) 0 true hk10 hi1 hs hal
        rw [← ht, ← hW, hr] at hj
        rw [if_pos (show (hd (tl s i) : Int) = 92 by rw [hye.1]; rfl), decide_eq_true hi2]
        simp only [chanceryref2_tokens.j1]
        rw [if_pos trivial, hw]
        rw [if_pos rfl] at hj
        exact hj
    · have := ih (k + 3) i acc (by omega) (by omega) hi hacc
      exact this
theorem tokens_eq (s : ByteArray) (hs : s.size ≤ 1048576) : ∃ k, chanceryref2_tokens.f k s = some (toks s) := by
  refine ⟨3 * s.size + 20, ?_⟩
  unfold chanceryref2_tokens.f
  have := tk_run s hs s.size (3 * s.size + 20) 0 [] (by omega) (Nat.le_refl _) (by omega) (by simp)
  have e : tl s 0 = s := by refine ba_ext0 ?_; rw [tl_list]; rfl
  rw [e] at this
  exact this
/-! ### The plain law, fourth part: a link's end, found alike. -/
theorem get_at (s : ByteArray) (i : Nat) (h : i < s.size) : s.get! i = s[i]'h := by
  simp [ByteArray.get!, ByteArray.getElem_eq_getElem_data, h]
theorem hd_get (s : ByteArray) (h : 0 < s.size) : (s.get! 0).toNat = hd s := by rw [get_at s 0 h, hd_at s h]
theorem hd_lt (s : ByteArray) : hd s < 256 := UInt8.toNat_lt _
theorem dec_N (s : ByteArray) (h : 0 < s.size) : Lib.decodeGo s = Lib.decodeN s.size (hd s) (s.get! 1).toNat (s.get! 2).toNat (s.get! 3).toNat := by
  unfold Lib.decodeGo
  rw [if_neg (by omega), Lib.decode_at]
  simp only [Nat.sub_zero, Nat.zero_add]
  rw [hd_get s h]
theorem dec_ascii (s : ByteArray) (h : 0 < s.size) (h1 : hd s < 128) : Lib.decodeGo s = (hd s, 1) := by
  rw [dec_N s h]
  unfold Lib.decodeN
  rw [if_pos h1]
theorem dec_high (s : ByteArray) (h : 0 < s.size) (h1 : 128 ≤ hd s) : 128 ≤ (Lib.decodeGo s).1 := by
  rw [dec_N s h]
  unfold Lib.decodeN
  repeat' split
  all_goals first | omega | (simp only; omega)
theorem dec_cont (s : ByteArray) (h : 0 < s.size) (i : Nat) (h1 : 1 ≤ i) (h2 : i < (Lib.decodeGo s).2) : 128 ≤ (s.get! i).toNat := by
  rw [dec_N s h] at h2
  unfold Lib.decodeN at h2
  repeat' split at h2
  all_goals simp only at h2
  all_goals first
    | omega
    | (have hi : i = 1 := by omega
       subst hi
       omega)
    | (have hi : i = 1 ∨ i = 2 := by omega
       rcases hi with rfl | rfl <;> omega)
    | (have hi : i = 1 ∨ i = 2 ∨ i = 3 := by omega
       rcases hi with rfl | rfl | rfl <;> omega)
theorem charB_asc (c : Int) (h : 32 ≤ c ∧ c < 127) : charB c = true := decide_eq_true (by omega)
theorem bad_ascii (s : ByteArray) (h : 0 < s.size) (h1 : hd s < 128) : chBad s = !charB (hd s : Int) := by
  unfold chBad
  rw [dec_ascii s h h1]
  have : ((hd s : Int) == 65533) = false := beq_eq_false_iff_ne.2 (by omega)
  simp only [this, Bool.false_and, Bool.false_or]
theorem isT_esc (s : ByteArray) (h : escB s = true) (c : Int) : isT (tokOf s) c = false := by
  unfold isT tokOf
  rw [h]
  rfl
theorem isT_plain (s : ByteArray) (h0 : 0 < s.size) (he : escB s = false) (c : Nat) (hc : 32 ≤ c ∧ c < 127) : isT (tokOf s) (c : Int) = decide (hd s = c) := by
  have hin : inn s = s := by unfold inn; rw [he]; rfl
  unfold isT tokOf
  simp only [hin, he]
  by_cases hh : hd s < 128
  · rw [bad_ascii s h0 hh, dec_ascii s h0 hh]
    cases hb : charB (hd s : Int)
    · have hne : ¬ hd s = c := by
        intro e
        rw [e, charB_asc _ (by omega)] at hb
        cases hb
      rw [decide_eq_false hne]
      rfl
    · simp only [Bool.not_true, Bool.not_false, Bool.true_and, Bool.false_eq_true, if_false]
      by_cases e : hd s = c
      · rw [e, decide_eq_true rfl]; simp
      · rw [decide_eq_false e]; exact beq_eq_false_iff_ne.2 (by omega)
  · rw [decide_eq_false (by omega)]
    have h2 := dec_high s h0 (by omega)
    cases hb : chBad s
    · simp only [Bool.not_false, Bool.true_and, Bool.false_eq_true, if_false]
      exact beq_eq_false_iff_ne.2 (by omega)
    · rfl
theorem escB_no (s : ByteArray) (h : hd s ≠ 92) : escB s = false := decide_eq_false (fun hh => h hh.1)
theorem escB_one (s : ByteArray) (h : s.size ≤ 1) : escB s = false := decide_eq_false (fun hh => by omega)
/-- a text behind some tokens -/
def skip : Nat → ByteArray → ByteArray
  | 0, s => s
  | n + 1, s => skip n (tl s (tokW s))
theorem tl_zero (s : ByteArray) : tl s 0 = s := by refine ba_ext0 ?_; rw [tl_list]; rfl
theorem tokW_zero (s : ByteArray) (h : s.size = 0) : tl s (tokW s) = s := by
  refine ba_ext0 ?_
  rw [tl_list]
  have : s.data.toList = [] := List.eq_nil_of_length_eq_zero (by rw [← size_list]; exact h)
  rw [this, List.drop_nil]
theorem toks_skip : ∀ (n : Nat) (s : ByteArray), toks (skip n s) = (toks s).drop n
  | 0, s => rfl
  | n + 1, s => by
    rcases Nat.eq_zero_or_pos s.size with h0 | h0
    · show toks (skip n (tl s (tokW s))) = _
      rw [tokW_zero s h0, toks_skip n s, toks_nil s h0, List.drop_nil, List.drop_nil]
    · show toks (skip n (tl s (tokW s))) = _
      rw [toks_skip n, toks_cons s h0, List.drop_succ_cons]
theorem skip_lt (n : Nat) (s : ByteArray) (h : 0 < s.size) : (skip (n + 1) s).size < s.size := by
  have hle : ∀ (k : Nat) (t : ByteArray), (skip k t).size ≤ t.size := by
    intro k
    induction k with
    | zero => intro t; exact Nat.le_refl _
    | succ k ih =>
      intro t
      have := ih (tl t (tokW t))
      rw [tl_size] at this
      show (skip k (tl t (tokW t))).size ≤ t.size
      omega
  have h1 := hle n (tl s (tokW s))
  have h2 := tokW_pos s h
  rw [tl_size] at h1
  show (skip n (tl s (tokW s))).size < s.size
  omega
theorem list_cons (s : ByteArray) (h : 0 < s.size) : ∃ c, c.toNat = hd s ∧ s.data.toList = c :: (tl s 1).data.toList := by
  refine ⟨s[0]'h, (hd_at s h).symm, ?_⟩
  have := drop_cons s 0 h
  rw [List.drop_zero] at this
  rw [tl_list]
  exact this
theorem scan_high : ∀ (n : Nat) (l : List UInt8) (a : Nat), n ≤ l.length → (∀ i c, i < n → l[i]? = some c → 128 ≤ c.toNat) → scan l a = scan (l.drop n) (a + n)
  | 0, l, a, _, _ => rfl
  | n + 1, [], a, hn, _ => by simp at hn
  | n + 1, c :: r, a, hn, h => by
    have hc := h 0 c (by omega) rfl
    have hp : Lib.hasPrefix (c :: r) [93, 40] = false := by
      rw [Bool.eq_false_iff]
      intro hh
      unfold Lib.hasPrefix at hh
      rw [List.isPrefixOf_iff_prefix, List.cons_prefix_cons] at hh
      rw [← hh.1] at hc
      exact absurd hc (by decide)
    rw [scan_cons, if_neg (by omega), if_neg (by omega), if_neg (by rw [hp]; decide), List.drop_succ_cons]
    rw [scan_high n r (a + 1) (by simpa using hn) (fun i c' hi hc' => h (i + 1) c' (by omega) hc')]
    congr 1
    omega
theorem get_list (s : ByteArray) (i : Nat) (c : UInt8) (h : s.data.toList[i]? = some c) : s.get! i = c := by
  have hi : i < s.size := by rw [size_list]; exact (List.getElem?_eq_some_iff.1 h).1
  rw [get_at s i hi]
  rw [List.getElem?_eq_getElem (by rw [← size_list]; exact hi)] at h
  exact Option.some.inj h
/-- the rest of a character is passed over -/
theorem scan_rest (s : ByteArray) (h : 0 < s.size) (a : Nat) : scan (s.data.toList.drop 1) (a + 1) = scan (s.data.toList.drop (Lib.decodeGo s).2) (a + (Lib.decodeGo s).2) := by
  have h1 := dec_pos s h
  have h2 := dec_size s
  rw [scan_high ((Lib.decodeGo s).2 - 1) (s.data.toList.drop 1) (a + 1) (by rw [List.length_drop, ← size_list]; omega) ?_]
  · rw [List.drop_drop]
    congr 1
    · congr 1; omega
    · omega
  · intro i c hi hc
    rw [List.getElem?_drop] at hc
    rw [← get_list s _ c hc]
    exact dec_cont s h (1 + i) (by omega) (by omega)
theorem opn_eq (s : ByteArray) (h0 : 0 < s.size) (he : escB s = false) (h93 : hd s = 93) : opn (toks s) = Lib.hasPrefix s.data.toList [93, 40] := by
  have hw : tokW s = 1 := by
    unfold tokW
    rw [he, show inn s = s by unfold inn; rw [he]; rfl, dec_ascii s h0 (by omega)]
    rfl
  obtain ⟨c, hc, hl⟩ := list_cons s h0
  have hc93 : c = 93 := UInt8.toNat_inj.1 (by rw [hc, h93]; rfl)
  rw [toks_cons s h0, hw, hl, hc93]
  have e1 : Lib.hasPrefix (93 :: (tl s 1).data.toList) [93, 40] = Lib.hasPrefix (tl s 1).data.toList [40] := by
    unfold Lib.hasPrefix
    simp [List.isPrefixOf]
  rw [e1]
  rcases Nat.eq_zero_or_pos (tl s 1).size with h1 | h1
  · rw [toks_nil _ h1]
    have : (tl s 1).data.toList = [] := List.eq_nil_of_length_eq_zero (by rw [← size_list]; exact h1)
    rw [this]
    rfl
  · rw [toks_cons _ h1]
    show (isT (tokOf s) 93 && isT (tokOf (tl s 1)) 40) = _
    rw [show (93 : Int) = ((93 : Nat) : Int) from rfl, isT_plain s h0 he 93 (by omega), decide_eq_true h93, Bool.true_and]
    obtain ⟨c2, hc2, hl2⟩ := list_cons (tl s 1) h1
    have e2 : Lib.hasPrefix (tl s 1).data.toList [40] = decide (hd (tl s 1) = 40) := by
      rw [hl2, Bool.eq_iff_iff]
      unfold Lib.hasPrefix
      rw [List.isPrefixOf_iff_prefix, List.cons_prefix_cons, decide_eq_true_iff]
      constructor
      · rintro ⟨h, _⟩; rw [← hc2, ← h]; rfl
      · intro h; exact ⟨(UInt8.toNat_inj.1 (by rw [hc2, h]; rfl)).symm, List.nil_prefix⟩
    rw [e2]
    cases he2 : escB (tl s 1)
    · exact isT_plain (tl s 1) h1 he2 40 (by omega)
    · rw [isT_esc _ he2, decide_eq_false]
      intro h
      have := (of_decide_eq_true he2).1
      omega
/-! ### The plain law, fifth part: a link is found alike. -/
theorem list_nil (s : ByteArray) (h : s.size = 0) : s.data.toList = [] := List.eq_nil_of_length_eq_zero (by rw [← size_list]; exact h)
theorem isT_p (s : ByteArray) (h0 : 0 < s.size) (he : escB s = false) (c : Nat) (hc : 32 ≤ c ∧ c < 127) (b : Bool) (hb : decide (hd s = c) = b) : isT (tokOf s) (c : Int) = b := (isT_plain s h0 he c hc).trans hb
theorem tokW_plain (s : ByteArray) (he : escB s = false) : tokW s = (Lib.decodeGo s).2 := by
  unfold tokW
  rw [he, show inn s = s by unfold inn; rw [he]; rfl]
  exact Nat.zero_add _
theorem tokW_esc (s : ByteArray) (he : escB s = true) : tokW s = 1 + (Lib.decodeGo (tl s 1)).2 := by
  unfold tokW
  rw [he, show inn s = tl s 1 by unfold inn; rw [he]; rfl]
  rfl
theorem tokW_asc (s : ByteArray) (h0 : 0 < s.size) (he : escB s = false) (h : hd s < 128) : tokW s = 1 := by
  rw [tokW_plain s he, dec_ascii s h0 h]
theorem opn_no (t : S66) (r : List S66) (h : isT t 93 = false) : opn (t :: r) = false := by
  cases r with
  | nil => rfl
  | cons u r => show (isT t 93 && isT u 40) = false; rw [h]; rfl
theorem scan_lk : ∀ (n : Nat) (s : ByteArray) (a j : Nat), s.size ≤ n → (scan s.data.toList a = none ∧ lkS (toks s) j = none) ∨ (∃ d w, scan s.data.toList a = some (a + w) ∧ w + 2 ≤ s.size ∧ skip d s = tl s w ∧ lkS (toks s) j = lkD (j + d) (toks (tl s (w + 2))) (j + d + 2) [])
  | 0, s, a, j, hn => by
    left
    rw [list_nil s (by omega), toks_nil s (by omega)]
    exact ⟨scan_nil _, rfl⟩
  | n + 1, s, a, j, hn => by
    rcases Nat.eq_zero_or_pos s.size with h0 | h0
    · left
      rw [list_nil s (by omega), toks_nil s (by omega)]
      exact ⟨scan_nil _, rfl⟩
    · obtain ⟨c, hc, hl⟩ := list_cons s h0
      have hT := toks_cons s h0
      have hW1 := tokW_pos s h0
      have hW2 := tokW_le s h0
      have hnext : (scan s.data.toList a = scan (tl s (tokW s)).data.toList (a + tokW s)) → isT (tokOf s) 91 = false → opn (toks s) = false → (scan s.data.toList a = none ∧ lkS (toks s) j = none) ∨ (∃ d w, scan s.data.toList a = some (a + w) ∧ w + 2 ≤ s.size ∧ skip d s = tl s w ∧ lkS (toks s) j = lkD (j + d) (toks (tl s (w + 2))) (j + d + 2) []) := by
        intro e1 e2 e3
        have hk : lkS (toks s) j = lkS (toks (tl s (tokW s))) (j + 1) := by
          rw [hT] at e3
          rw [hT, lkS_cons, e2, if_neg (by decide), e3, if_neg (by decide)]
        rw [e1, hk]
        rcases scan_lk n (tl s (tokW s)) (a + tokW s) (j + 1) (by rw [tl_size]; omega) with h | ⟨d, w, h1, h2, h3, h4⟩
        · exact .inl h
        · right
          rw [tl_size] at h2
          refine ⟨d + 1, tokW s + w, ?_, by omega, ?_, ?_⟩
          · rw [h1, Nat.add_assoc]
          · show skip d (tl s (tokW s)) = _
            rw [h3, tl_tl0]
          · rw [h4, tl_tl0, show j + 1 + d = j + (d + 1) by omega]
            rfl
      by_cases h91 : hd s = 91
      · left
        have he := escB_no s (by omega)
        constructor
        · rw [hl, scan_cons, if_pos (by omega)]
        · rw [hT, lkS_cons, show (91 : Int) = ((91 : Nat) : Int) from rfl, isT_p s h0 he 91 (by omega) true (decide_eq_true h91), if_pos rfl]
      · by_cases h92 : hd s = 92
        · by_cases h1 : s.size ≤ 1
          · left
            have he := escB_one s h1
            constructor
            · rw [hl, scan_cons, if_neg (by omega), if_pos (by omega), list_nil (tl s 1) (by rw [tl_size]; omega)]
              exact scan_nil _
            · have hw := tokW_asc s h0 he (by omega)
              have h93f := isT_p s h0 he 93 (by omega) false (decide_eq_false (by omega))
              rw [hT, lkS_cons, show (91 : Int) = ((91 : Nat) : Int) from rfl, isT_p s h0 he 91 (by omega) false (decide_eq_false h91), if_neg (by decide), opn_no _ _ h93f, if_neg (by decide), hw, toks_nil (tl s 1) (by rw [tl_size]; omega)]
              rfl
          · have he : escB s = true := decide_eq_true ⟨h92, by omega⟩
            refine hnext ?_ (isT_esc s he 91) ?_
            · have hp : 0 < (tl s 1).size := by rw [tl_size]; omega
              have hr := scan_rest (tl s 1) hp (a + 1)
              rw [hl, scan_cons, if_neg (by omega), if_pos (by omega), tokW_esc s he, hr]
              rw [← tl_list, tl_tl0]
              congr 1
              omega
            · rw [hT]
              exact opn_no _ _ (isT_esc s he 93)
        · have he := escB_no s h92
          by_cases hp : Lib.hasPrefix s.data.toList [93, 40] = true
          · have h93 : hd s = 93 := by
              rw [hl] at hp
              unfold Lib.hasPrefix at hp
              rw [List.isPrefixOf_iff_prefix, List.cons_prefix_cons] at hp
              rw [← hc, ← hp.1]
              rfl
            have hs2 : 2 ≤ s.size := by have := pre_len hp; rw [← size_list] at this; exact this
            have ho := (opn_eq s h0 he h93).trans hp
            right
            refine ⟨0, 0, ?_, by omega, ?_, ?_⟩
            · rw [hl] at hp ⊢
              rw [scan_cons, if_neg (by omega), if_neg (by omega), if_pos hp]
              rfl
            · exact (tl_zero s).symm
            · have hw := tokW_asc s h0 he (by omega)
              have hp1 : 0 < (tl s 1).size := by rw [tl_size]; omega
              have h40 : isT (tokOf (tl s 1)) 40 = true := by
                rw [hT, hw, toks_cons _ hp1] at ho
                exact (Bool.and_eq_true_iff.1 ho).2
              have he1 : escB (tl s 1) = false := by
                rw [Bool.eq_false_iff]
                intro h
                rw [isT_esc _ h] at h40
                cases h40
              have hh1 : hd (tl s 1) = 40 := by
                rw [show (40 : Int) = ((40 : Nat) : Int) from rfl, isT_plain _ hp1 he1 40 (by omega)] at h40
                exact of_decide_eq_true h40
              have hw1 := tokW_asc _ hp1 he1 (by omega)
              rw [hT] at ho
              rw [hT, lkS_cons, show (91 : Int) = ((91 : Nat) : Int) from rfl, isT_p s h0 he 91 (by omega) false (decide_eq_false h91), if_neg (by decide), ho, if_pos rfl, hw, toks_cons _ hp1, hw1, tl_tl0]
              rfl
          · have hpf : Lib.hasPrefix s.data.toList [93, 40] = false := Bool.eq_false_iff.2 hp
            refine hnext ?_ ?_ ?_
            · have hr := scan_rest s h0 a
              rw [hl] at hp
              rw [tokW_plain s he, tl_list, ← hr]
              rw [hl, scan_cons, if_neg (by omega), if_neg (by omega), if_neg hp]
              rfl
            · exact isT_p s h0 he 91 (by omega) false (decide_eq_false h91)
            · by_cases h93 : hd s = 93
              · exact (opn_eq s h0 he h93).trans hpf
              · rw [hT]
                exact opn_no _ _ (isT_p s h0 he 93 (by omega) false (decide_eq_false h93))
theorem lkD_long (q : Nat) : ∀ (l : List S66) (m : Nat) (b : List UInt8), 200 < b.length → lkD q l m b = none
  | [], m, b, h => rfl
  | t :: r, m, b, h => by
    rw [lkD_cons]
    split
    · rw [if_pos (.inr h)]
    · split
      · rfl
      · exact lkD_long q r (m + 1) _ (by rw [List.length_append]; omega)
theorem dest_lk : ∀ (n : Nat) (s : ByteArray) (i m : Nat) (b : List UInt8) (q : Nat), s.size ≤ n → (dest s.data.toList i b = none ∧ lkD q (toks s) m b = none) ∨ (∃ b' d w, dest s.data.toList i b = some (b', i + w) ∧ w ≤ s.size ∧ skip d s = tl s w ∧ lkD q (toks s) m b = if b'.length = 0 then none else some (b', q, m + d))
  | 0, s, i, m, b, q, hn => by
    left
    rw [list_nil s (by omega), toks_nil s (by omega)]
    exact ⟨dest_nil _ _, rfl⟩
  | n + 1, s, i, m, b, q, hn => by
    rcases Nat.eq_zero_or_pos s.size with h0 | h0
    · left
      rw [list_nil s (by omega), toks_nil s (by omega)]
      exact ⟨dest_nil _ _, rfl⟩
    · obtain ⟨c, hc, hl⟩ := list_cons s h0
      have hT := toks_cons s h0
      by_cases hb : 200 < b.length
      · left
        rw [hl, dest_cons, if_pos hb]
        exact ⟨rfl, lkD_long q _ m b hb⟩
      · have hnext : ∀ (x : UInt8) (w : Nat), tokW s = w → 1 ≤ w → w ≤ s.size → isT (tokOf s) 41 = false → (tokOf s).f3 = false → (tokOf s).f0 = (x.toNat : Int) → 32 ≤ x.toNat → x.toNat ≤ 126 → isT (tokOf s) 92 = false → dest s.data.toList i b = dest (tl s w).data.toList (i + w) (b ++ [x]) → (dest s.data.toList i b = none ∧ lkD q (toks s) m b = none) ∨ (∃ b' d w, dest s.data.toList i b = some (b', i + w) ∧ w ≤ s.size ∧ skip d s = tl s w ∧ lkD q (toks s) m b = if b'.length = 0 then none else some (b', q, m + d)) := by
          intro x w e0 e1 e2 e3 e4 e5 e6 e7 e8 e9
          have hk : lkD q (toks s) m b = lkD q (toks (tl s w)) (m + 1) (b ++ [x]) := by
            rw [hT, e0, lkD_cons, if_neg (by rw [e3]; decide), if_neg (by rw [e4, e5, e8]; simp; omega), e5, Int.toNat_natCast]
            congr 2
            simp
          rw [e9, hk]
          rcases dest_lk n (tl s w) (i + w) (m + 1) (b ++ [x]) q (by rw [tl_size]; omega) with h | ⟨b', d, v, h1, h2, h3, h4⟩
          · exact .inl h
          · right
            rw [tl_size] at h2
            refine ⟨b', d + 1, w + v, ?_, by omega, ?_, ?_⟩
            · rw [h1, Nat.add_assoc]
            · show skip d (tl s (tokW s)) = _
              rw [e0, h3, tl_tl0]
            · rw [h4, show m + 1 + d = m + (d + 1) by omega]
        by_cases h41 : hd s = 41
        · right
          have he := escB_no s (by omega)
          have hw := tokW_asc s h0 he (by omega)
          refine ⟨b, 1, 1, ?_, by omega, ?_, ?_⟩
          · rw [hl, dest_cons, if_neg hb, if_pos (by omega)]
          · show tl s (tokW s) = _
            rw [hw]
          · rw [hT, lkD_cons, show (41 : Int) = ((41 : Nat) : Int) from rfl, isT_p s h0 he 41 (by omega) true (decide_eq_true h41), if_pos rfl]
            by_cases hb0 : b.length = 0
            · rw [if_pos (.inl hb0), if_pos hb0]
            · rw [if_neg (by omega), if_neg hb0]
        · by_cases h92 : hd s = 92
          · by_cases h1 : s.size ≤ 1
            · left
              have he := escB_one s h1
              constructor
              · rw [hl, dest_cons, if_neg hb, if_neg (by omega), if_pos (by omega), list_nil (tl s 1) (by rw [tl_size]; omega)]
              · rw [hT, lkD_cons, show (41 : Int) = ((41 : Nat) : Int) from rfl, isT_p s h0 he 41 (by omega) false (decide_eq_false h41), if_neg (by decide), if_pos]
                exact .inr (.inr (.inr (isT_p s h0 he 92 (by omega) true (decide_eq_true h92))))
            · have he : escB s = true := decide_eq_true ⟨h92, by omega⟩
              have hp : 0 < (tl s 1).size := by rw [tl_size]; omega
              obtain ⟨c2, hc2, hl2⟩ := list_cons (tl s 1) hp
              have hin : inn s = tl s 1 := by unfold inn; rw [he]; rfl
              have hd0 : dest s.data.toList i b = if c2.toNat < 32 ∨ 126 < c2.toNat then none else dest (tl (tl s 1) 1).data.toList (i + 2) (b ++ [c2]) := by
                rw [hl, dest_cons, if_neg hb, if_neg (by omega), if_pos (by omega), hl2]
              by_cases hr : c2.toNat < 32 ∨ 126 < c2.toNat
              · left
                rw [hd0, if_pos hr]
                refine ⟨rfl, ?_⟩
                rw [hT, lkD_cons, isT_esc s he, if_neg (by decide), if_pos]
                by_cases ha : hd (tl s 1) < 128
                · have hbd := bad_ascii (tl s 1) hp ha
                  have hdc := dec_ascii (tl s 1) hp ha
                  cases hq : chBad (tl s 1)
                  · right
                    have hf : (tokOf s).f0 = (hd (tl s 1) : Int) := by unfold tokOf; rw [hin, hq, hdc]; rfl
                    rw [hf]
                    omega
                  · left
                    show chBad (inn s) = true
                    rw [hin, hq]
                · have hdh := dec_high (tl s 1) hp (by omega)
                  cases hq : chBad (tl s 1)
                  · right
                    have hf : (tokOf s).f0 = ((Lib.decodeGo (tl s 1)).1 : Int) := by unfold tokOf; rw [hin, hq]; rfl
                    rw [hf]
                    omega
                  · left
                    show chBad (inn s) = true
                    rw [hin, hq]
              · have ha : hd (tl s 1) < 128 := by omega
                have hbd := bad_ascii (tl s 1) hp ha
                have hdc := dec_ascii (tl s 1) hp ha
                rw [charB_asc _ (by omega)] at hbd
                have hbd2 : chBad (tl s 1) = false := hbd
                refine hnext c2 2 (by rw [tokW_esc s he, hdc]; rfl) (by omega) (by omega) (isT_esc s he 41) (by show chBad (inn s) = false; rw [hin]; exact hbd2) (by unfold tokOf; rw [hin, hbd2, hdc]; show (hd (tl s 1) : Int) = _; omega) (by omega) (by omega) (isT_esc s he 92) ?_
                rw [hd0, if_neg hr, tl_tl0]
          · have he := escB_no s h92
            have hin : inn s = s := by unfold inn; rw [he]; rfl
            have hd0 : dest s.data.toList i b = if c.toNat < 32 ∨ 126 < c.toNat then none else dest (tl s 1).data.toList (i + 1) (b ++ [c]) := by
              rw [hl, dest_cons, if_neg hb, if_neg (by omega), if_neg (by omega)]
            have n41 := isT_p s h0 he 41 (by omega) false (decide_eq_false h41)
            have n92 := isT_p s h0 he 92 (by omega) false (decide_eq_false h92)
            by_cases hr : c.toNat < 32 ∨ 126 < c.toNat
            · left
              rw [hd0, if_pos hr]
              refine ⟨rfl, ?_⟩
              rw [hT, lkD_cons, if_neg (fun h => by rw [show (41 : Int) = ((41 : Nat) : Int) from rfl, n41] at h; cases h), if_pos]
              by_cases ha : hd s < 128
              · have hbd := bad_ascii s h0 ha
                have hdc := dec_ascii s h0 ha
                cases hq : chBad s
                · right
                  have hf : (tokOf s).f0 = (hd s : Int) := by unfold tokOf; rw [hin, hq, hdc]; rfl
                  rw [hf]
                  omega
                · left
                  show chBad (inn s) = true
                  rw [hin, hq]
              · have hdh := dec_high s h0 (by omega)
                cases hq : chBad s
                · right
                  have hf : (tokOf s).f0 = ((Lib.decodeGo s).1 : Int) := by unfold tokOf; rw [hin, hq]; rfl
                  rw [hf]
                  omega
                · left
                  show chBad (inn s) = true
                  rw [hin, hq]
            · have ha : hd s < 128 := by omega
              have hbd := bad_ascii s h0 ha
              have hdc := dec_ascii s h0 ha
              rw [charB_asc _ (by omega)] at hbd
              have hbd2 : chBad s = false := hbd
              refine hnext c 1 (tokW_asc s h0 he ha) (by omega) (by omega) n41 (by show chBad (inn s) = false; rw [hin]; exact hbd2) (by unfold tokOf; rw [hin, hbd2, hdc]; show (hd s : Int) = _; omega) (by omega) (by omega) n92 ?_
              rw [hd0, if_neg hr]
/-! ### The plain law, sixth part: the two machines go in lock step. -/
theorem scan_pre : ∀ (n : Nat) (l : List UInt8) (a p : Nat), l.length ≤ n → scan l a = some p → a ≤ p ∧ Lib.hasPrefix (l.drop (p - a)) [93, 40] = true
  | n, [], a, p, _, h => by rw [scan_nil] at h; cases h
  | 0, c :: r, a, p, hl, h => by simp at hl
  | n + 1, c :: r, a, p, hl, h => by
    simp only [List.length_cons] at hl
    rw [scan_cons] at h
    split at h
    · cases h
    · split at h
      · have := scan_pre n (r.drop 1) (a + 2) p (by simp; omega) h
        refine ⟨by omega, ?_⟩
        rw [List.drop_drop] at this
        rw [show p - a = (1 + (p - (a + 2))) + 1 by omega, List.drop_succ_cons]
        exact this.2
      · split at h
        · rename_i hp
          cases h
          refine ⟨Nat.le_refl _, ?_⟩
          rw [Nat.sub_self]
          exact hp
        · have := scan_pre n r (a + 1) p (by omega) h
          refine ⟨by omega, ?_⟩
          rw [show p - a = (p - (a + 1)) + 1 by omega, List.drop_succ_cons]
          exact this.2
theorem hp1 (s : ByteArray) (c : UInt8) : Lib.hasPrefix s.data.toList [c] = decide (0 < s.size ∧ hd s = c.toNat) := by
  rcases Nat.eq_zero_or_pos s.size with h0 | h0
  · rw [list_nil s h0, decide_eq_false (by omega)]
    rfl
  · obtain ⟨x, hx, hl⟩ := list_cons s h0
    rw [hl, Bool.eq_iff_iff]
    unfold Lib.hasPrefix
    rw [List.isPrefixOf_iff_prefix, List.cons_prefix_cons, decide_eq_true_iff, ← hx]
    constructor
    · rintro ⟨h, _⟩; exact ⟨h0, by rw [h]⟩
    · rintro ⟨_, h⟩; exact ⟨(UInt8.toNat_inj.1 h).symm, List.nil_prefix⟩
theorem hp2 (s : ByteArray) (c d : UInt8) : Lib.hasPrefix s.data.toList [c, d] = decide (2 ≤ s.size ∧ hd s = c.toNat ∧ hd (tl s 1) = d.toNat) := by
  rcases Nat.eq_zero_or_pos s.size with h0 | h0
  · rw [list_nil s h0, decide_eq_false (by omega)]
    rfl
  · obtain ⟨x, hx, hl⟩ := list_cons s h0
    have h1 := hp1 (tl s 1) d
    rw [tl_size] at h1
    have e : Lib.hasPrefix s.data.toList [c, d] = (decide (x = c) && Lib.hasPrefix (tl s 1).data.toList [d]) := by
      rw [hl, Bool.eq_iff_iff]
      unfold Lib.hasPrefix
      rw [Bool.and_eq_true_iff, List.isPrefixOf_iff_prefix, List.isPrefixOf_iff_prefix, List.cons_prefix_cons, decide_eq_true_iff]
      exact ⟨fun h => ⟨h.1.symm, h.2⟩, fun h => ⟨h.1.symm, h.2⟩⟩
    rw [e, h1, Bool.eq_iff_iff, Bool.and_eq_true_iff, decide_eq_true_iff, decide_eq_true_iff, decide_eq_true_iff, ← hx]
    constructor
    · rintro ⟨h, h2, h3⟩; exact ⟨by omega, by rw [h], h3⟩
    · rintro ⟨h2, h, h3⟩; exact ⟨UInt8.toNat_inj.1 h, by omega, h3⟩
structure LK (l : List S66) (o0 : List S30) (l00 : List S38) (x : LS) (m : MS) : Prop where
  rem : l.drop m.i = toks x.s
  o : x.st.o = o0 ++ m.o
  ls : x.st.l = l00 ++ m.ls
  b0 : x.st.b0 = m.b0
  b1 : x.st.b3 = m.b1
  b2 : x.st.b1 = m.b2
  b3 : x.st.b2 = m.b3
  k : x.st.k = m.k
  en : (x.stop = -1 ∧ m.en = -1) ∨ (∃ d : Nat, m.en = ((m.i + d : Nat) : Int) ∧ x.stop = ((skip d x.s).size : Int) ∧ hd (skip d x.s) = 93 ∧ 0 < (skip d x.s).size ∧ toks x.af = l.drop m.bh)
theorem attrs_eq {l : List S66} {o0 : List S30} {l00 : List S38} {x : LS} {m : MS} (h : LK l o0 l00 x m) : attrsOf x.st = mat4 m := by
  unfold attrsOf mat4 mat3l mat3 mat2 mat1 ord hasK
  rw [h.b0, h.b1, h.b2, h.b3, h.k]
  by_cases hk : m.k.size = 0
  · rw [decide_eq_false (show ¬ 0 < m.k.size by omega), if_pos hk]
    cases m.b0 <;> cases m.b1 <;> cases m.b2 <;> cases m.b3 <;> rfl
  · rw [decide_eq_true (show 0 < m.k.size by omega), if_neg hk]
    cases m.b0 <;> cases m.b1 <;> cases m.b2 <;> cases m.b3 <;> rfl
section
variable {l : List S66} {o0 : List S30} {l00 : List S38} {x : LS} {m : MS}
theorem LK.tok (h : LK l o0 l00 x m) (h0 : 0 < x.s.size) : l[m.i]? = some (tokOf x.s) ∧ l.drop (m.i + 1) = toks (tl x.s (tokW x.s)) ∧ m.i < l.length := by
  have h1 := h.rem
  rw [toks_cons _ h0] at h1
  have h2 : l[m.i]? = some (tokOf x.s) := by
    have h3 := congrArg (fun q : List S66 => q[0]?) h1
    simp only [List.getElem?_drop, Nat.add_zero, List.getElem?_cons_zero] at h3
    exact h3
  refine ⟨h2, ?_, (List.getElem?_eq_some_iff.1 h2).1⟩
  rw [← List.drop_drop, h1, List.drop_succ_cons, List.drop_zero]
/-- one token further -/
theorem en_step {s : ByteArray} {i : Nat} {en stop : Int} {af : ByteArray} {bh : Nat}
    (h : (stop = -1 ∧ en = -1) ∨ (∃ d : Nat, en = ((i + d : Nat) : Int) ∧ stop = ((skip d s).size : Int) ∧ hd (skip d s) = 93 ∧ 0 < (skip d s).size ∧ toks af = l.drop bh)) (hn : ¬ (i : Int) = en) :
    (stop = -1 ∧ en = -1) ∨ (∃ d : Nat, en = ((i + 1 + d : Nat) : Int) ∧ stop = ((skip d (tl s (tokW s))).size : Int) ∧ hd (skip d (tl s (tokW s))) = 93 ∧ 0 < (skip d (tl s (tokW s))).size ∧ toks af = l.drop bh) := by
  rcases h with h | ⟨d, h1, h2, h3, h4, h5⟩
  · exact .inl h
  · cases d with
    | zero => exact absurd h1.symm (by simpa using hn)
    | succ d => exact .inr ⟨d, by rw [h1]; congr 1; omega, h2, h3, h4, h5⟩
theorem chr_LK (h : LK l o0 l00 x m) (h0 : 0 < x.s.size) (hn : ¬ (m.i : Int) = m.en) :
    LK l o0 l00 { x with s := tl x.s (tokW x.s), st := chS (inn x.s) x.st } (mchar (o0.length : Int) (tokOf x.s) m) := by
  have ht := h.tok h0
  have ha := attrs_eq h
  refine ⟨ht.2.1, ?_, ?_, h.b0, h.b1, h.b2, h.b3, h.k, en_step h.en hn⟩
  · show x.st.o ++ [(⟨_, 0, attrsOf x.st⟩ : S30)] = o0 ++ (m.o ++ [_])
    rw [h.o, ha, List.append_assoc]
    rfl
  · show (if chBad (inn x.s) = true then x.st.l ++ [(⟨5, 0, (x.st.o.length : Int), 0, ⟨#[]⟩⟩ : S38)] else x.st.l) = l00 ++ (if chBad (inn x.s) = true then m.ls ++ [_] else m.ls)
    rw [h.o, h.ls]
    cases chBad (inn x.s)
    · rfl
    · rw [if_pos rfl, if_pos rfl, List.append_assoc, List.length_append, Int.natCast_add]
theorem stop_iff (h : LK l o0 l00 x m) (h0 : 0 < x.s.size) : ((x.s.size : Int) = x.stop) ↔ ((m.i : Int) = m.en) := by
  rcases h.en with ⟨h1, h2⟩ | ⟨d, h1, h2, _⟩
  · rw [h1, h2]; omega
  · cases d with
    | zero => rw [h1, h2]; exact ⟨fun _ => rfl, fun _ => rfl⟩
    | succ d =>
      have := skip_lt d x.s h0
      rw [h1, h2]
      omega
theorem nxt_eq (h : LK l o0 l00 x m) (h0 : 0 < x.s.size) (he : escB x.s = false) (ha : hd x.s < 128) (c : Nat) (hc : 32 ≤ c ∧ c < 127 ∧ c ≠ 92) : nxt l m.i (c : Int) = decide (2 ≤ x.s.size ∧ hd (tl x.s 1) = c) := by
  have ht := (h.tok h0).2.1
  rw [tokW_asc _ h0 he ha] at ht
  unfold nxt
  rcases Nat.eq_zero_or_pos (tl x.s 1).size with h1 | h1
  · rw [toks_nil _ h1] at ht
    have h2 : l[m.i + 1]? = none := by
      have h3 := congrArg (fun q : List S66 => q[0]?) ht
      simp only [List.getElem?_drop, Nat.add_zero, List.getElem?_nil] at h3
      exact h3
    rw [h2, decide_eq_false]
    rw [tl_size] at h1
    omega
  · rw [toks_cons _ h1] at ht
    have h2 : l[m.i + 1]? = some (tokOf (tl x.s 1)) := by
      have h3 := congrArg (fun q : List S66 => q[0]?) ht
      simp only [List.getElem?_drop, Nat.add_zero, List.getElem?_cons_zero] at h3
      exact h3
    rw [h2]
    simp only
    have h2s : 2 ≤ x.s.size := by rw [tl_size] at h1; omega
    cases he1 : escB (tl x.s 1)
    · rw [isT_plain _ h1 he1 c (by omega)]
      exact decide_eq_decide.2 ⟨fun e => ⟨h2s, e⟩, fun e => e.2⟩
    · rw [isT_esc _ he1, decide_eq_false]
      have := (of_decide_eq_true he1).1
      omega
/-- a mark of one character -/
theorem one_LK (h : LK l o0 l00 x m) (h0 : 0 < x.s.size) (hn : ¬ (m.i : Int) = m.en) (hw : tokW x.s = 1) (st' : Rdr) (b0 b1 b2 b3 : Bool)
    (ho : st'.o = x.st.o) (hl : st'.l = x.st.l) (hk : st'.k = x.st.k) (h1 : st'.b0 = b0) (h2 : st'.b3 = b1) (h3 : st'.b1 = b2) (h4 : st'.b2 = b3) :
    LK l o0 l00 { x with s := tl x.s 1, st := st' } { m with b0 := b0, b1 := b1, b2 := b2, b3 := b3, i := m.i + 1 } := by
  have ht := h.tok h0
  have he := en_step h.en hn
  rw [hw] at ht he
  exact ⟨ht.2.1, ho.trans h.o, hl.trans h.ls, h1, h2, h3, h4, hk.trans h.k, he⟩
/-- a mark of two characters -/
theorem two_LK (h : LK l o0 l00 x m) (h0 : 0 < x.s.size) (hn : ¬ (m.i : Int) = m.en) (hw : tokW x.s = 1) (h2s : 2 ≤ x.s.size) (hh : hd (tl x.s 1) < 93) (h92 : hd (tl x.s 1) ≠ 92) (st' : Rdr) (b0 b1 b2 b3 : Bool)
    (ho : st'.o = x.st.o) (hl : st'.l = x.st.l) (hk : st'.k = x.st.k) (h1 : st'.b0 = b0) (h2 : st'.b3 = b1) (h3 : st'.b1 = b2) (h4 : st'.b2 = b3) :
    LK l o0 l00 { x with s := tl x.s 2, st := st' } { m with b0 := b0, b1 := b1, b2 := b2, b3 := b3, i := m.i + 2 } := by
  have h' := one_LK h h0 hn hw x.st m.b0 m.b1 m.b2 m.b3 rfl rfl rfl h.b0 h.b1 h.b2 h.b3
  have hp : 0 < (tl x.s 1).size := by rw [tl_size]; omega
  have he := escB_no (tl x.s 1) h92
  have hw2 := tokW_asc (tl x.s 1) hp he (by omega)
  have hn2 : ¬ ((m.i + 1 : Nat) : Int) = m.en := by
    intro e
    rcases h'.en with ⟨_, e2⟩ | ⟨d, e2, _, e3, _, _⟩
    · have e4 : m.en = -1 := e2
      omega
    · have e4 : m.en = ((m.i + 1 + d : Nat) : Int) := e2
      have hd0 : d = 0 := by omega
      subst hd0
      have e5 : hd (tl x.s 1) = 93 := e3
      omega
  have h'' := one_LK h' hp hn2 hw2 st' b0 b1 b2 b3 ho hl hk h1 h2 h3 h4
  have e2 : tl (tl x.s 1) 1 = tl x.s 2 := tl_tl0 _ _ _
  rw [← e2]
  exact h''
end
/-! ### The plain law, first part: the two splits of lines answer alike. -/
def nl : ByteArray := ⟨#[10]⟩
theorem ib_pre : ∀ (pre r : List UInt8), (∀ b ∈ pre, b ≠ 10) → Lib.indexByte (pre ++ 10 :: r) 10 = (pre.length : Int)
  | [], r, _ => by unfold Lib.indexByte; simp
  | b :: l, r, h => by
    have ih := ib_pre l r (fun c hc => h c (List.mem_cons_of_mem _ hc))
    have hb : (b == 10) = false := beq_eq_false_iff_ne.2 (h b List.mem_cons_self)
    rw [List.cons_append]
    unfold Lib.indexByte
    rw [ih, hb]
    have h2 : ((l.length : Int) == -1) = false := beq_eq_false_iff_ne.2 (by omega)
    rw [h2]
    simp
theorem ib_none : ∀ (l : List UInt8), (∀ b ∈ l, b ≠ 10) → Lib.indexByte l 10 = -1
  | [], _ => rfl
  | b :: l, h => by
    have ih := ib_none l (fun c hc => h c (List.mem_cons_of_mem _ hc))
    have hb : (b == 10) = false := beq_eq_false_iff_ne.2 (h b List.mem_cons_self)
    unfold Lib.indexByte
    rw [ih, hb]
    simp
theorem idx_nl (s : ByteArray) : Lib.indexB s nl = Lib.indexByte s.data.toList 10 := Lib.index_one _ _
theorem lin_miss (s : ByteArray) (h : ∀ b ∈ s.data.toList, b ≠ 10) : linesOf s = [s] := by
  have e : Lib.indexB s nl = -1 := by rw [idx_nl, ib_none _ h]
  exact Lib.splitB_miss nl 0 _ s e
theorem lin_hit (s : ByteArray) (pre r : List UInt8) (hs : s.data.toList = pre ++ 10 :: r) (h : ∀ b ∈ pre, b ≠ 10) : linesOf s = s.extract 0 pre.length :: linesOf (s.extract (pre.length + 1) s.size) := by
  have e : Lib.indexB s nl = ((pre.length : Nat) : Int) := by rw [idx_nl, hs, ib_pre _ _ h]
  have hc := Lib.countB_hit s nl pre.length (by decide) e
  unfold linesOf
  show Lib.splitB nl 0 (Lib.countB s nl) s = _
  rw [hc, Nat.add_comm 1, Lib.splitB_hit nl 0 _ s pre.length e]
  rfl
theorem ext_ab (s : ByteArray) (a b : Nat) : (s.extract a b).data.toList = (s.data.toList.drop a).take (b - a) := by
  have h : (s.extract a b).data = s.data.extract a b := by simp
  rw [h, Array.toList_extract]
theorem sl0_end (k : Nat) (x0 : ByteArray) (x1 : Int) (x5 : List ByteArray) (x6 x9 x10 : Int) (h : ¬ x10 < x9) (h6 : 0 ≤ x6) (h7 : x6 ≤ (x0.size : Int)) (h5 : x5.length < 8796093022208) :
    chanceryref2_Split.l0 (k + 1) x0 x1 x5 x6 x9 x10 = some (x5 ++ [x0.extract x6.toNat x0.size]) := by
  simp only [chanceryref2_Split.l0]
  rw [if_neg h, if_pos h6, if_pos h7, if_pos h5]
theorem sl0_hit (k : Nat) (x0 : ByteArray) (x1 : Int) (x5 : List ByteArray) (x6 x9 x10 : Int) (h : x10 < x9) (h0 : 0 ≤ x10) (h1 : x10 < (x0.size : Int)) (hb : bt x0 x10 = x1) (h6 : 0 ≤ x6) (h7 : x6 ≤ x10) (h8 : x10 ≤ (x0.size : Int)) (h5 : x5.length < 8796093022208) :
    chanceryref2_Split.l0 (k + 1) x0 x1 x5 x6 x9 x10 = chanceryref2_Split.l0 k x0 x1 (x5 ++ [x0.extract x6.toNat x10.toNat]) (wrap64 (x10 + 1)) x9 (wrap64 (x10 + 1)) := by
  simp only [chanceryref2_Split.l0]
  rw [if_pos h, if_pos h0, if_pos h1, if_pos hb, if_pos h6, if_pos h7, if_pos h8, if_pos h5]
theorem sl0_step (k : Nat) (x0 : ByteArray) (x1 : Int) (x5 : List ByteArray) (x6 x9 x10 : Int) (h : x10 < x9) (h0 : 0 ≤ x10) (h1 : x10 < (x0.size : Int)) (hb : ¬ bt x0 x10 = x1) :
    chanceryref2_Split.l0 (k + 1) x0 x1 x5 x6 x9 x10 = chanceryref2_Split.l0 k x0 x1 x5 x6 x9 (wrap64 (x10 + 1)) := by
  simp only [chanceryref2_Split.l0]
  rw [if_pos h, if_pos h0, if_pos h1, if_neg hb]
theorem split_run (s : ByteArray) (hs : s.size ≤ 1048576) (d : Nat) : ∀ (k st i : Nat) (acc : List ByteArray), s.size - i = d → d < k → st ≤ i → i ≤ s.size → acc.length ≤ i → (∀ b ∈ (s.data.toList.drop st).take (i - st), b ≠ 10) →
    chanceryref2_Split.l0 k s 10 acc (st : Int) (s.size : Int) (i : Int) = some (acc ++ linesOf (s.extract st s.size)) := by
  induction d with
  | zero =>
    intro k st i acc hd hk hst hi hacc hno
    obtain ⟨k, rfl⟩ : ∃ m, k = m + 1 := ⟨k - 1, by omega⟩
    have he : (s.extract st s.size).data.toList = s.data.toList.drop st := ext_list s st
    have hie : i = s.size := by omega
    rw [sl0_end k s 10 acc st s.size i (by omega) (by omega) (by omega) (by omega)]
    have hno2 : ∀ b ∈ (s.extract st s.size).data.toList, b ≠ 10 := by
      intro b hb
      rw [he] at hb
      refine hno b ?_
      rw [List.take_of_length_le (by rw [List.length_drop, ← size_list]; omega)]
      exact hb
    rw [lin_miss _ hno2, Int.toNat_natCast]
  | succ d ih =>
    intro k st i acc hd hk hst hi hacc hno
    obtain ⟨k, rfl⟩ : ∃ m, k = m + 1 := ⟨k - 1, by omega⟩
    have he : (s.extract st s.size).data.toList = s.data.toList.drop st := ext_list s st
    have hlt : i < s.size := by omega
    have hw : wrap64 ((i : Int) + 1) = ((i + 1 : Nat) : Int) := by unfold wrap64; omega
    have hb : bt s (i : Int) = ((s[i]'hlt).toNat : Int) := by unfold bt; rw [dif_pos (by simpa using hlt)]; rfl
    have hD := drop_cons s i hlt
    have hsp : s.data.toList.drop st = (s.data.toList.drop st).take (i - st) ++ s.data.toList.drop i := by
      conv => lhs; rw [← List.take_append_drop (i - st) (s.data.toList.drop st), List.drop_drop, show st + (i - st) = i by omega]
    by_cases h10 : (s[i]'hlt).toNat = 10
    · have hi10 : s[i]'hlt = 10 := UInt8.toNat_inj.1 h10
      have hpl : ((s.data.toList.drop st).take (i - st)).length = i - st := by
        rw [List.length_take, List.length_drop, ← size_list]; omega
      have hh := lin_hit (s.extract st s.size) _ (s.data.toList.drop (i + 1)) (by rw [he, ← hi10, ← hD]; exact hsp) hno
      rw [hpl] at hh
      have e1 : (s.extract st s.size).extract 0 (i - st) = s.extract st i := by
        refine ba_ext ?_
        rw [ext_ab, he, List.drop_zero, ext_ab, Nat.sub_zero]
      have e2 : (s.extract st s.size).extract (i - st + 1) (s.extract st s.size).size = s.extract (i + 1) s.size := by
        refine ba_ext ?_
        rw [ext_list, he, ext_list, List.drop_drop]
        congr 1
        omega
      rw [e1, e2] at hh
      rw [sl0_hit k s 10 acc st s.size i (by omega) (by omega) (by omega) (by rw [hb, h10]; rfl) (by omega) (by omega) (by omega) (by omega), hw]
      have := ih k (i + 1) (i + 1) (acc ++ [s.extract st i]) (by omega) (by omega) (Nat.le_refl _) (by omega) (by simp; omega) (by simp)
      rw [Int.toNat_natCast, Int.toNat_natCast, this, hh, List.append_assoc]
      rfl
    · rw [sl0_step k s 10 acc st s.size i (by omega) (by omega) (by omega) (by rw [hb]; omega), hw]
      refine ih k st (i + 1) acc (by omega) (by omega) (by omega) (by omega) (by omega) ?_
      intro b hb2
      rw [hsp, hD, show i + 1 - st = (i - st) + 1 by omega, List.take_append] at hb2
      have hpl : ((s.data.toList.drop st).take (i - st)).length = i - st := by
        rw [List.length_take, List.length_drop, ← size_list]; omega
      rcases List.mem_append.1 hb2 with h | h
      · exact hno b (List.mem_of_mem_take h)
      · rw [hpl, show i - st + 1 - (i - st) = 1 by omega, List.take_succ_cons, List.take_zero, List.mem_singleton] at h
        rw [h]
        intro h3
        exact h10 (by rw [h3]; rfl)
theorem split_eq (s : ByteArray) (hs : s.size ≤ 1048576) : ∃ k, chanceryref2_Split.f k s 10 = some (linesOf s) := by
  refine ⟨s.size + 1, ?_⟩
  unfold chanceryref2_Split.f
  have := split_run s hs s.size (s.size + 1) 0 0 [] rfl (by omega) (Nat.le_refl _) (by omega) (by simp) (by simp)
  have e : s.extract 0 s.size = s := by refine ba_ext ?_; rw [ext_list]; rfl
  rw [e] at this
  exact this
/-! ### The plain law, seventh part: each step alike, and the whole. -/
theorem open_two (u : ByteArray) (h : Lib.hasPrefix u.data.toList [93, 40] = true) : hd u = 93 ∧ 2 ≤ u.size ∧ toks (tl u 2) = (toks u).drop 2 := by
  rw [hp2, decide_eq_true_iff] at h
  obtain ⟨h2, h93, h40⟩ := h
  have h93' : hd u = 93 := h93
  have h40' : hd (tl u 1) = 40 := h40
  have e1 := tokW_asc u (by omega) (escB_no u (by omega)) (by omega)
  have hp : 0 < (tl u 1).size := by rw [tl_size]; omega
  have e2 := tokW_asc (tl u 1) hp (escB_no _ (by omega)) (by omega)
  refine ⟨h93', h2, ?_⟩
  rw [toks_cons u (by omega), e1, toks_cons _ hp, e2, tl_tl0]
  rfl
section
variable {l : List S66} {o0 : List S30} {l00 : List S38} {x : LS} {m : MS}
theorem lnk_LK (h : LK l o0 l00 x m) (h0 : 0 < x.s.size) (he : escB x.s = false) :
    (lnk x.s x.st = none ∧ mlnk l (tokOf x.s) m = none) ∨ (∃ b a e q f, lnk x.s x.st = some (b, a, e) ∧ mlnk l (tokOf x.s) m = some (b, q, f) ∧ LK l o0 l00 ⟨tl x.s 1, (x.s.size : Int) - 1 - (a : Int), tl x.s (1 + e), { x.st with k := ⟨b.toArray⟩ }⟩ { m with k := ⟨b.toArray⟩, en := ((q : Nat) : Int), bh := f, i := m.i + 1 }) := by
  have h91 : isT (tokOf x.s) 91 = decide (hd x.s = 91) := isT_plain x.s h0 he 91 (by omega)
  by_cases hc : hd x.s = 91 ∧ x.st.k.size = 0
  · have hW := tokW_asc x.s h0 he (by omega)
    have ht := (h.tok h0).2.1
    rw [hW] at ht
    have e1 : lnk x.s x.st = (match targetO (tl x.s 1).data.toList with | some (b, a, e) => if 0 < b.length then some (b, a, e) else none | none => none) := by
      unfold lnk
      rw [if_pos hc, tl_list]
      rfl
    have e2 : mlnk l (tokOf x.s) m = lkS (toks (tl x.s 1)) (m.i + 1) := by
      unfold mlnk
      rw [if_pos ⟨by rw [h91, decide_eq_true hc.1], by rw [← h.k]; exact hc.2⟩, ht]
    obtain ⟨s', hs'⟩ : ∃ s', tl x.s 1 = s' := ⟨_, rfl⟩
    have hsz : s'.size = x.s.size - 1 := by rw [← hs', tl_size]
    rw [hs'] at e1 e2 ht
    rcases scan_lk _ s' 0 (m.i + 1) (Nat.le_refl _) with ⟨h1, h2⟩ | ⟨d, w, h1, h2, h3, h4⟩
    · left
      refine ⟨?_, e2.trans h2⟩
      rw [e1]
      unfold targetO
      rw [h1]
    · rw [Nat.zero_add] at h1
      have hpre := (scan_pre _ _ _ _ (Nat.le_refl _) h1).2
      rw [Nat.sub_zero, ← tl_list] at hpre
      obtain ⟨o1, o2, o3⟩ := open_two _ hpre
      rw [tl_tl0] at o3
      rcases dest_lk _ (tl s' (w + 2)) (w + 2) (m.i + 1 + d + 2) [] (m.i + 1 + d) (Nat.le_refl _) with ⟨g1, g2⟩ | ⟨b', d2, w2, g1, g2, g3, g4⟩
      · left
        refine ⟨?_, e2.trans (h4.trans g2)⟩
        rw [e1]
        unfold targetO
        rw [tl_list] at g1
        simp only [h1, g1]
      · have hT : targetO s'.data.toList = some (b', w, w + 2 + w2) := by
          unfold targetO
          rw [tl_list] at g1
          simp only [h1, g1]
        rw [hT] at e1
        rw [h4, g4] at e2
        by_cases hb : b'.length = 0
        · left
          rw [if_pos hb] at e2
          exact ⟨e1.trans (if_neg (by omega)), e2⟩
        · right
          rw [if_neg hb] at e2
          refine ⟨b', w, w + 2 + w2, _, _, e1.trans (if_pos (by omega)), e2, ?_⟩
          rw [hs']
          refine ⟨ht, h.o, h.ls, h.b0, h.b1, h.b2, h.b3, rfl, .inr ⟨d, rfl, ?_, ?_, ?_, ?_⟩⟩
          · show (x.s.size : Int) - 1 - (w : Int) = ((skip d s').size : Int)
            rw [h3, tl_size]
            omega
          · show hd (skip d s') = 93
            rw [h3]; exact o1
          · show 0 < (skip d s').size
            rw [h3]; omega
          · show toks (tl x.s (1 + (w + 2 + w2))) = l.drop (m.i + 1 + d + 2 + d2)
            have q1 : tl x.s (1 + (w + 2 + w2)) = tl (tl s' (w + 2)) w2 := by first | (rw [← hs', tl_tl0, tl_tl0]; done) | (rw [← hs', tl_tl0, tl_tl0]; exact congrArg (tl x.s) (by omega))
            rw [q1, ← g3, toks_skip, o3, ← h3, toks_skip, ← ht, List.drop_drop, List.drop_drop, List.drop_drop]
            exact congrArg (fun k => l.drop k) (by omega)
  · left
    constructor
    · unfold lnk
      rw [if_neg hc]
    · unfold mlnk
      rw [if_neg]
      rintro ⟨g1, g2⟩
      rw [h91, decide_eq_true_iff] at g1
      exact hc ⟨g1, by rw [h.k]; exact g2⟩
theorem LK_step (h : LK l o0 l00 x m) (h0 : 0 < x.s.size) : LK l o0 l00 (lstep x) (mstep l (o0.length : Int) m) := by
  have ht := h.tok h0
  have hstop := stop_iff h h0
  by_cases hs : (m.i : Int) = m.en
  · have e1 : lstep x = { x with s := x.af, stop := -1, st := { x.st with k := ⟨#[]⟩ } } := if_pos (hstop.2 hs)
    have e2 : mstep l (o0.length : Int) m = { m with k := ⟨#[]⟩, en := -1, i := m.bh } := if_pos hs
    rw [e1, e2]
    refine ⟨?_, h.o, h.ls, h.b0, h.b1, h.b2, h.b3, rfl, .inl ⟨rfl, rfl⟩⟩
    rcases h.en with ⟨_, g⟩ | ⟨d, _, _, _, _, g⟩
    · omega
    · exact g.symm
  · have hns : ¬ (x.s.size : Int) = x.stop := fun e => hs (hstop.1 e)
    have e2 : mstep l (o0.length : Int) m = mtok l (o0.length : Int) (tokOf x.s) m := by
      unfold mstep
      rw [if_neg hs, ht.1]
    rw [e2]
    cases hesc : escB x.s
    · have hne := of_decide_eq_false hesc
      have hin : inn x.s = x.s := by unfold inn; rw [hesc]; rfl
      have t42 : isT (tokOf x.s) 42 = decide (hd x.s = 42) := isT_plain x.s h0 hesc 42 (by omega)
      have t126 : isT (tokOf x.s) 126 = decide (hd x.s = 126) := isT_plain x.s h0 hesc 126 (by omega)
      have t96 : isT (tokOf x.s) 96 = decide (hd x.s = 96) := isT_plain x.s h0 hesc 96 (by omega)
      have p42 : Lib.hasPrefix x.s.data.toList [42, 42] = decide (2 ≤ x.s.size ∧ hd x.s = 42 ∧ hd (tl x.s 1) = 42) := hp2 x.s 42 42
      have p1 : Lib.hasPrefix x.s.data.toList [42] = decide (0 < x.s.size ∧ hd x.s = 42) := hp1 x.s 42
      have p126 : Lib.hasPrefix x.s.data.toList [126, 126] = decide (2 ≤ x.s.size ∧ hd x.s = 126 ∧ hd (tl x.s 1) = 126) := hp2 x.s 126 126
      have p96 : Lib.hasPrefix x.s.data.toList [96] = decide (0 < x.s.size ∧ hd x.s = 96) := hp1 x.s 96
      have q1 : lstep x = if 0 < togN x.s.data.toList then { x with s := tl x.s (togN x.s.data.toList), st := togS x.s.data.toList x.st } else match lnk x.s x.st with
          | some (b, a, e) => { s := tl x.s 1, stop := (x.s.size : Int) - 1 - (a : Int), af := tl x.s (1 + e), st := { x.st with k := ⟨b.toArray⟩ } }
          | none => chStep x x.s := by
        unfold lstep
        rw [if_neg hns, if_neg hne]
        rfl
      by_cases c1 : 2 ≤ x.s.size ∧ hd x.s = 42 ∧ hd (tl x.s 1) = 42
      · have hn : nxt l m.i 42 = true := (nxt_eq h h0 hesc (by omega) 42 (by omega)).trans (decide_eq_true ⟨c1.1, c1.2.2⟩)
        have e3 : mtok l (o0.length : Int) (tokOf x.s) m = { m with b0 := !m.b0, i := m.i + 2 } := if_pos (by rw [t42, hn, decide_eq_true c1.2.1]; rfl)
        have g1 : togN x.s.data.toList = 2 := if_pos (by rw [p42, decide_eq_true c1])
        have g2 : togS x.s.data.toList x.st = { x.st with b0 := !x.st.b0 } := if_pos (by rw [p42, decide_eq_true c1])
        rw [q1, if_pos (by omega), e3, g1, g2]
        exact two_LK h h0 hs (tokW_asc x.s h0 hesc (by omega)) c1.1 (by omega) (by omega) _ (!m.b0) m.b1 m.b2 m.b3 rfl rfl rfl (by show (!x.st.b0) = _; rw [h.b0]) h.b1 h.b2 h.b3
      · have p42f : ¬ Lib.hasPrefix x.s.data.toList [42, 42] = true := by rw [p42, decide_eq_false c1]; decide
        by_cases c2 : hd x.s = 42
        · have hn : nxt l m.i 42 = false := (nxt_eq h h0 hesc (by omega) 42 (by omega)).trans (decide_eq_false (fun g => c1 ⟨g.1, c2, g.2⟩))
          have e3 : mtok l (o0.length : Int) (tokOf x.s) m = { m with b2 := !m.b2, i := m.i + 1 } := by
            unfold mtok
            rw [if_neg (by rw [hn, Bool.and_false]; decide), if_pos (by rw [t42, decide_eq_true c2])]
          have p1t : Lib.hasPrefix x.s.data.toList [42] = true := by rw [p1]; exact decide_eq_true ⟨h0, c2⟩
          have g1 : togN x.s.data.toList = 1 := by unfold togN; rw [if_neg p42f, if_pos p1t]
          have g2 : togS x.s.data.toList x.st = { x.st with b1 := !x.st.b1 } := by unfold togS; rw [if_neg p42f, if_pos p1t]
          rw [q1, if_pos (by omega), e3, g1, g2]
          exact one_LK h h0 hs (tokW_asc x.s h0 hesc (by omega)) _ m.b0 m.b1 (!m.b2) m.b3 rfl rfl rfl h.b0 h.b1 (by show (!x.st.b1) = _; rw [h.b2]) h.b3
        · have t42f : isT (tokOf x.s) 42 = false := t42.trans (decide_eq_false c2)
          have p1f : ¬ Lib.hasPrefix x.s.data.toList [42] = true := by rw [p1, decide_eq_false (fun g => c2 g.2)]; decide
          by_cases c3 : 2 ≤ x.s.size ∧ hd x.s = 126 ∧ hd (tl x.s 1) = 126
          · have hn : nxt l m.i 126 = true := (nxt_eq h h0 hesc (by omega) 126 (by omega)).trans (decide_eq_true ⟨c3.1, c3.2.2⟩)
            have e3 : mtok l (o0.length : Int) (tokOf x.s) m = { m with b3 := !m.b3, i := m.i + 2 } := by
              unfold mtok
              rw [if_neg (by rw [t42f, Bool.false_and]; decide), if_neg (by rw [t42f]; decide), if_pos (by rw [t126, hn, decide_eq_true c3.2.1]; rfl)]
            have p3t : Lib.hasPrefix x.s.data.toList [126, 126] = true := by rw [p126]; exact decide_eq_true c3
            have g1 : togN x.s.data.toList = 2 := by unfold togN; rw [if_neg p42f, if_neg p1f, if_pos p3t]
            have g2 : togS x.s.data.toList x.st = { x.st with b2 := !x.st.b2 } := by unfold togS; rw [if_neg p42f, if_neg p1f, if_pos p3t]
            rw [q1, if_pos (by omega), e3, g1, g2]
            have h' := one_LK h h0 hs (tokW_asc x.s h0 hesc (by omega)) x.st m.b0 m.b1 m.b2 m.b3 rfl rfl rfl h.b0 h.b1 h.b2 h.b3
            have hp : 0 < (tl x.s 1).size := by rw [tl_size]; omega
            have hn2 : ¬ ((m.i + 1 : Nat) : Int) = m.en := by
              intro e
              rcases h'.en with ⟨_, g⟩ | ⟨d, g, _, g3, _, _⟩
              · have g4 : m.en = -1 := g
                omega
              · have g4 : m.en = ((m.i + 1 + d : Nat) : Int) := g
                have hd0 : d = 0 := by omega
                subst hd0
                have g5 : hd (tl x.s 1) = 93 := g3
                omega
            have h'' := one_LK h' hp hn2 (tokW_asc (tl x.s 1) hp (escB_no (tl x.s 1) (by rw [c3.2.2]; omega)) (by rw [c3.2.2]; omega)) { x.st with b2 := !x.st.b2 } m.b0 m.b1 m.b2 (!m.b3) rfl rfl rfl h.b0 h.b1 h.b2 (by show (!x.st.b2) = _; rw [h.b3])
            have e4 : tl (tl x.s 1) 1 = tl x.s 2 := tl_tl0 _ _ _
            rw [← e4]
            exact h''
          · have p3f : ¬ Lib.hasPrefix x.s.data.toList [126, 126] = true := by rw [p126, decide_eq_false c3]; decide
            have hn3 : ¬ (isT (tokOf x.s) 126 && nxt l m.i 126) = true := by
              intro g
              rw [Bool.and_eq_true_iff, t126, decide_eq_true_iff] at g
              have g2 : nxt l m.i 126 = decide (2 ≤ x.s.size ∧ hd (tl x.s 1) = 126) := nxt_eq h h0 hesc (by omega) 126 (by omega)
              rw [g2, decide_eq_true_iff] at g
              exact c3 ⟨g.2.1, g.1, g.2.2⟩
            by_cases c4 : hd x.s = 96
            · have e3 : mtok l (o0.length : Int) (tokOf x.s) m = { m with b1 := !m.b1, i := m.i + 1 } := by
                unfold mtok
                rw [if_neg (by rw [t42f, Bool.false_and]; decide), if_neg (by rw [t42f]; decide), if_neg hn3, if_pos (by rw [t96, decide_eq_true c4])]
              have p4t : Lib.hasPrefix x.s.data.toList [96] = true := by rw [p96]; exact decide_eq_true ⟨h0, c4⟩
              have g1 : togN x.s.data.toList = 1 := by unfold togN; rw [if_neg p42f, if_neg p1f, if_neg p3f, if_pos p4t]
              have g2 : togS x.s.data.toList x.st = { x.st with b3 := !x.st.b3 } := by unfold togS; rw [if_neg p42f, if_neg p1f, if_neg p3f, if_pos p4t]
              rw [q1, if_pos (by omega), e3, g1, g2]
              exact one_LK h h0 hs (tokW_asc x.s h0 hesc (by omega)) _ m.b0 (!m.b1) m.b2 m.b3 rfl rfl rfl h.b0 (by show (!x.st.b3) = _; rw [h.b1]) h.b2 h.b3
            · have p4f : ¬ Lib.hasPrefix x.s.data.toList [96] = true := by rw [p96, decide_eq_false (fun g => c4 g.2)]; decide
              have g1 : togN x.s.data.toList = 0 := by unfold togN; rw [if_neg p42f, if_neg p1f, if_neg p3f, if_neg p4f]
              have e3 : mtok l (o0.length : Int) (tokOf x.s) m = mtail l (o0.length : Int) (tokOf x.s) m := by
                unfold mtok
                rw [if_neg (by rw [t42f, Bool.false_and]; decide), if_neg (by rw [t42f]; decide), if_neg hn3, if_neg (by rw [t96, decide_eq_false c4]; decide)]
              rw [q1, if_neg (by omega), e3]
              rcases lnk_LK h h0 hesc with ⟨k1, k2⟩ | ⟨b, a, e, q, f, k1, k2, k3⟩
              · rw [k1, mtail_none k2]
                have hc := chr_LK h h0 hs
                rw [hin, tokW_plain x.s hesc] at hc
                exact hc
              · rw [k1, mtail_some k2]
                exact k3
    · have hye := of_decide_eq_true hesc
      have hin : inn x.s = tl x.s 1 := by unfold inn; rw [hesc]; rfl
      have e3 : mtok l (o0.length : Int) (tokOf x.s) m = mchar (o0.length : Int) (tokOf x.s) m := by
        unfold mtok
        rw [if_neg (by rw [isT_esc _ hesc, Bool.false_and]; decide), if_neg (by rw [isT_esc _ hesc]; decide), if_neg (by rw [isT_esc _ hesc, Bool.false_and]; decide), if_neg (by rw [isT_esc _ hesc]; decide)]
        refine mtail_none ?_
        unfold mlnk
        rw [if_neg]
        intro g
        rw [isT_esc _ hesc] at g
        cases g.1
      have e4 : lstep x = chStep x (tl x.s 1) := by
        unfold lstep
        rw [if_neg hns, if_pos hye]
      rw [e3, e4]
      have hc := chr_LK h h0 hs
      rw [hin, tokW_esc x.s hesc] at hc
      have e5 : tl (tl x.s 1) (Lib.decodeGo (tl x.s 1)).2 = tl x.s (1 + (Lib.decodeGo (tl x.s 1)).2) := tl_tl0 _ _ _
      show LK l o0 l00 { x with s := tl (tl x.s 1) (Lib.decodeGo (tl x.s 1)).2, st := chS (tl x.s 1) x.st } _
      rw [e5]
      exact hc
end
/-! ### The plain law, last part: Import and the reference answer alike at every text. -/
theorem LK_fin {l : List S66} {o0 : List S30} {l00 : List S38} {M : Nat} : ∀ (n : Nat) (x : LS) (m : MS), x.s.size ≤ n → LK l o0 l00 x m → MI l m → LI M x →
    (fin x).st.o = o0 ++ (mfin l (o0.length : Int) m).o ∧ (fin x).st.l = l00 ++ (mfin l (o0.length : Int) m).ls := by
  intro n
  induction n with
  | zero =>
    intro x m hn h hM hL
    have h0 : x.s.size = 0 := by omega
    have hr := h.rem
    rw [toks_nil _ h0] at hr
    rw [fin_done x h0, mfin_done l _ m (List.drop_eq_nil_iff.1 hr)]
    exact ⟨h.o, h.ls⟩
  | succ n ih =>
    intro x m hn h hM hL
    rcases Nat.eq_zero_or_pos x.s.size with h0 | h0
    · have hr := h.rem
      rw [toks_nil _ h0] at hr
      rw [fin_done x h0, mfin_done l _ m (List.drop_eq_nil_iff.1 hr)]
      exact ⟨h.o, h.ls⟩
    · have ht := h.tok h0
      have hs := hL.step h0
      rw [← fin_step hL h0, ← mfin_step (frm := (o0.length : Int)) hM ht.2.2]
      exact ih _ _ (by omega) (LK_step h h0) (hM.step ht.2.2).1 hs.1
theorem line_eq (y : ByteArray) (st : Rdr) : (fin (l0 y st)).st.o = st.o ++ (mfin (toks y) (st.o.length : Int) m0).o ∧ (fin (l0 y st)).st.l = st.l ++ (mfin (toks y) (st.o.length : Int) m0).ls := by
  refine LK_fin (M := st.o.length + st.l.length + y.size) _ (l0 y st) m0 (Nat.le_refl _) ?_ (MI_m0 _) ⟨.inl rfl, ?_, ?_⟩
  · exact ⟨rfl, (List.append_nil _).symm, (List.append_nil _).symm, rfl, rfl, rfl, rfl, rfl, .inl ⟨rfl, rfl⟩⟩
  · show st.o.length + y.size ≤ _
    omega
  · show st.l.length + y.size ≤ _
    omega
theorem para_eq (st : Rdr) (l : ByteArray) : (⟨(para st l).o, (para st l).l⟩ : RP) = rpara toks ⟨st.o, st.l⟩ l := by
  have h := line_eq (marksR l).1 st
  unfold rpara
  show (⟨(fin (l0 (marksR l).1 st)).st.o ++ [⟨10, 0, (marksR l).2⟩], (fin (l0 (marksR l).1 st)).st.l⟩ : RP) = _
  rw [h.1, h.2]
theorem fold_eq : ∀ (L : List ByteArray) (st : Rdr), (⟨(L.foldl para st).o, (L.foldl para st).l⟩ : RP) = L.foldl (rpara toks) ⟨st.o, st.l⟩
  | [], st => rfl
  | a :: r, st => by
    rw [List.foldl_cons, List.foldl_cons, ← para_eq]
    exact fold_eq r (para st a)
theorem import_ref (s : ByteArray) : (rst toks (trTo (linesOf s) ((linesOf s).length - 1)) (keepN (linesOf s))).o = (impR s).o ∧ (rst toks (trTo (linesOf s) ((linesOf s).length - 1)) (keepN (linesOf s))).ls = (impR s).l := by
  have h := fold_eq ((trTo (linesOf s) ((linesOf s).length - 1)).take (keepN (linesOf s))) z43
  have e : rst toks (trTo (linesOf s) ((linesOf s).length - 1)) (keepN (linesOf s)) = ⟨(impR s).o, (impR s).l⟩ := h.symm
  rw [e]
  exact ⟨rfl, rfl⟩
def sEx : ByteArray := ⟨#[45, 32, 42, 97, 42]⟩
theorem impR_ex : (impR sEx).o = [⟨97, 0, [⟨⟨#[105, 116, 97, 108, 105, 99]⟩, ⟨#[111, 110]⟩⟩]⟩, ⟨10, 0, [⟨sList, sBullet⟩]⟩] := by kernel_rfl
/-! ### The law's walk: MarkedImportMatches returns true. -/
theorem sa_run (l : List S32) (hl : l.length ≤ 9223372036854775807) (d : Nat) : ∀ (k i : Nat), l.length - i ≤ d → d < k → chanceryref2_SameAttrs.l0 k l l (l.length : Int) (i : Int) = some true := by
  induction d with
  | zero =>
    intro k i hd hk
    obtain ⟨k, rfl⟩ : ∃ m, k = m + 1 := ⟨k - 1, by omega⟩
    simp only [chanceryref2_SameAttrs.l0]
    rw [if_neg (by omega)]
  | succ d ih =>
    intro k i hd hk
    obtain ⟨k, rfl⟩ : ∃ m, k = m + 1 := ⟨k - 1, by omega⟩
    simp only [chanceryref2_SameAttrs.l0]
    by_cases h : i < l.length
    · rw [if_pos (by omega), if_pos (by omega), if_pos (by omega), if_pos (by omega)]
      have hw : wrap64 ((i : Int) + 1) = ((i + 1 : Nat) : Int) := by unfold wrap64; omega
      rw [hw, ih k (i + 1) (by omega) (by omega)]
      simp
    · rw [if_neg (by omega)]
theorem sa_eq (l : List S32) (hl : l.length ≤ 9223372036854775807) (k : Nat) (hk : l.length < k) : chanceryref2_SameAttrs.f k l l = some true := by
  unfold chanceryref2_SameAttrs.f
  rw [if_pos rfl]
  exact sa_run l hl l.length k 0 (by omega) hk
theorem lo_run (l : List S38) (hl : l.length ≤ 9223372036854775807) (d : Nat) : ∀ (k i : Nat), l.length - i ≤ d → d < k → api_Loss.l0 k l l (l.length : Int) (i : Int) = some true := by
  induction d with
  | zero =>
    intro k i hd hk
    obtain ⟨k, rfl⟩ : ∃ m, k = m + 1 := ⟨k - 1, by omega⟩
    simp only [api_Loss.l0]
    rw [if_neg (by omega)]
  | succ d ih =>
    intro k i hd hk
    obtain ⟨k, rfl⟩ : ∃ m, k = m + 1 := ⟨k - 1, by omega⟩
    simp only [api_Loss.l0]
    by_cases h : i < l.length
    · rw [if_pos (by omega), if_pos (by omega), if_pos (by omega), if_pos (by omega)]
      have hw : wrap64 ((i : Int) + 1) = ((i + 1 : Nat) : Int) := by unfold wrap64; omega
      rw [hw, ih k (i + 1) (by omega) (by omega)]
      simp
    · rw [if_neg (by omega)]
theorem lo_eq (l : List S38) (hl : l.length ≤ 9223372036854775807) : api_Loss.f (l.length + 1) l l = some true := by
  unfold api_Loss.f
  rw [if_pos rfl]
  exact lo_run l hl l.length (l.length + 1) 0 (by omega) (by omega)
theorem sf_run (l : List S30) (hl : l.length ≤ 9223372036854775807) (m : Nat) (hm : ∀ i : Nat, i < l.length → (rd_T30 l (i : Int)).f2.length ≤ m) (hm2 : m ≤ 9223372036854775807) (d : Nat) : ∀ (k i : Nat), l.length - i ≤ d → d + m + 1 < k → chanceryref2_SameFlow.l0 k l l (l.length : Int) (i : Int) = some true := by
  induction d with
  | zero =>
    intro k i hd hk
    obtain ⟨k, rfl⟩ : ∃ m, k = m + 1 := ⟨k - 1, by omega⟩
    simp only [chanceryref2_SameFlow.l0]
    rw [if_neg (by omega)]
  | succ d ih =>
    intro k i hd hk
    obtain ⟨k, rfl⟩ : ∃ m, k = m + 1 := ⟨k - 1, by omega⟩
    simp only [chanceryref2_SameFlow.l0]
    by_cases h : i < l.length
    · have hw : wrap64 ((i : Int) + 1) = ((i + 1 : Nat) : Int) := by unfold wrap64; omega
      have hx : (rd_T30 l (i : Int)).f2.length ≤ m := hm i h
      rw [if_pos (by omega), if_pos (by omega), if_pos (by omega), if_pos (by omega), if_pos trivial, if_pos trivial, sa_eq _ (by omega) k (by omega)]
      simp only [Option.bind_some]
      rw [if_pos trivial, hw]
      exact ih k (i + 1) (by omega) (by omega)
    · rw [if_neg (by omega)]
theorem sf_eq (l : List S30) (hl : l.length ≤ 9223372036854775807) (m : Nat) (hm : ∀ i : Nat, i < l.length → (rd_T30 l (i : Int)).f2.length ≤ m) (hm2 : m ≤ 9223372036854775807) : chanceryref2_SameFlow.f (l.length + m + 2) l l = some true := by
  unfold chanceryref2_SameFlow.f
  rw [if_pos rfl]
  exact sf_run l hl m hm hm2 l.length (l.length + m + 2) 0 (by omega) (by omega)
theorem flow_bd {w : World} {A : Option Addr} {l : List S30} (h : Kd.C k30 w A l.length l) (i : Nat) (hi : i < l.length) : (rd_T30 l (i : Int)).f2.length ≤ 9223372036854775807 := by
  obtain ⟨ad, A2, c2, _, _, _, _, _, hC⟩ := at_T30 h (i : Int) (by omega) (by omega)
  exact hC.2.1
theorem flow_call (A0 : Option Addr) (c0 : Nat) (A1 : Option Addr) (c1 : Nat) (l : List S30) (w : World) (hr0 : Kd.C k30 w A0 l.length l) (hc0 : l.length ≤ c0) (hr1 : Kd.C k30 w A1 l.length l) (hc1 : l.length ≤ c1) :
    Calls Tryd.prog 7 #[.slice A0 l.length c0, .slice A1 l.length c1] w fun e w' => e = .returned (.bool true) ∧ Below w.heap.size w w' :=
  chanceryref2_SameFlow.calls _ A0 c0 l A1 c1 l true w hr0 hc0 hr1 hc1 (sf_eq l hr0.2.1 9223372036854775807 (flow_bd hr0) (Nat.le_refl _))
theorem loss_call (A0 : Option Addr) (c0 : Nat) (A1 : Option Addr) (c1 : Nat) (l : List S38) (w : World) (hr0 : Kd.C k38 w A0 l.length l) (hc0 : l.length ≤ c0) (hr1 : Kd.C k38 w A1 l.length l) (hc1 : l.length ≤ c1) :
    Calls Tryd.prog 8 #[.slice A0 l.length c0, .slice A1 l.length c1] w fun e w' => e = .returned (.bool true) ∧ Below w.heap.size w w' :=
  (api_Loss.calls _ A0 c0 l A1 c1 l true w hr0 hc0 hr1 hc1 (lo_eq l hr0.2.1)).mono fun _ _ h => ⟨h.1, h.2.below⟩
theorem attr_call (A0 : Option Addr) (c0 : Nat) (A1 : Option Addr) (c1 : Nat) (l : List S32) (w : World) (hr0 : Kd.C k32 w A0 l.length l) (hc0 : l.length ≤ c0) (hr1 : Kd.C k32 w A1 l.length l) (hc1 : l.length ≤ c1) :
    Calls Tryd.prog 5 #[.slice A0 l.length c0, .slice A1 l.length c1] w fun e w' => e = .returned (.bool true) ∧ Below w.heap.size w w' :=
  (chanceryref2_SameAttrs.calls _ A0 c0 l A1 c1 l true w hr0 hc0 hr1 hc1 (sa_eq l hr0.2.1 _ (Nat.lt_succ_self _))).mono fun _ _ h => ⟨h.1, h.2.below⟩
theorem attr_one (A0 : Option Addr) (c0 : Nat) (A1 : Option Addr) (c1 : Nat) (x : S32) (w : World) (hr0 : Kd.C k32 w A0 1 [x]) (hc0 : 1 ≤ c0) (hr1 : Kd.C k32 w A1 1 [x]) (hc1 : 1 ≤ c1) :
    Calls Tryd.prog 5 #[.slice A0 1 c0, .slice A1 1 c1] w fun e w' => e = .returned (.bool true) ∧ Below w.heap.size w w' := attr_call A0 c0 A1 c1 [x] w hr0 hc0 hr1 hc1
set_option maxHeartbeats 4000000 in
set_option maxRecDepth 100000 in
theorem law_walk (s : ByteArray) (mx : Int) (w : World) (hT : Tgl w) (hU : Lib.Utf8Tabs 2 3 w) (hm : w.cell? ⟨1, 0, none⟩ = some (.int .i64 mx)) (h4 : 3 < w.heap.size) (hs : s.size ≤ 1048576) :
    Calls Tryd.prog 3 #[.string s] w fun e w' => e = .returned (.bool true) ∧ Below w.heap.size w w' := by
  have HT := Aside0.mk hT
  have HU := Aside0.mk hU
  have HM := Aside0.mk hm
  have H4 := Aside0.mk h4
  clear hT hU hm h4
  go_enter Tryd.func3, Tryd.ntmps3
  go_upto_region 2 with (go_at_call 4; (refine (import_ok sEx mx _ HT.out HU.out HM.out H4.out (by decide)).mono ?_); rintro e w2 ⟨⟨vo, vl, rfl, ho, hl⟩, hb⟩)
  rw [impR_ex] at ho
  obtain ⟨Ao, co, rfl, hco, hC⟩ := Kd.R_reads ho
  obtain ⟨ad, A2, c2, hA, h0, h1, h2, hl2, hC2⟩ := at_T30 hC 0 (Int.le_refl _) (by decide)
  subst hA
  have e2 : (rd_T30 [⟨97, 0, [(⟨⟨#[105, 116, 97, 108, 105, 99]⟩, ⟨#[111, 110]⟩⟩ : S32)]⟩, ⟨10, 0, [⟨sList, sBullet⟩]⟩] 0).f2 = [⟨⟨#[105, 116, 97, 108, 105, 99]⟩, ⟨#[111, 110]⟩⟩] := rfl
  rw [e2] at h2 hl2 hC2
  have h2' : w2.cell? ⟨ad.block, ad.off + 2, none⟩ = some (.slice A2 1 c2) := by
    have := h2
    simpa [Addr.add] using this
  have HC2 := Aside0.mk hC2
  have HL2 := Aside0.mk (show 1 ≤ c2 from hl2)
  have HB := Aside0.mk hb
  clear ho hl h0 h1 h2 hC hC2 hl2 e2 hco hb
  have HW := Aside0.mk (R_one w2 w2.heap.size (Nat.le_refl _) ⟨⟨#[105, 116, 97, 108, 105, 99]⟩, ⟨#[111, 110]⟩⟩)
  go_upto_region 4 with (go_at_call 5; (refine (attr_one A2 c2 _ 1 ⟨⟨#[105, 116, 97, 108, 105, 99]⟩, ⟨#[111, 110]⟩⟩ _ (Kd.C_below HC2.out (below_alloc (Below.refl _ _) _)) HL2.out (Kd.R_reads' HW.out).2.2 (Nat.le_refl 1)).mono ?_); rintro e w3 ⟨rfl, hb3⟩; have HB3 := Aside0.mk ((HB.out.alloc HB.out.size (.cells #[.string ⟨#[105, 116, 97, 108, 105, 99]⟩, .string ⟨#[111, 110]⟩] 32)).trans (hb3.mono (HB.out.alloc HB.out.size (.cells #[.string ⟨#[105, 116, 97, 108, 105, 99]⟩, .string ⟨#[111, 110]⟩] 32)).size)); clear hb3)
  go_upto_region 5 with (go_at_call 4; (refine (import_ok s mx _ (HT.out.below HB3.out) (Utf8Tabs_belowB (r := w.heap.size) (B := w.heap.size) HU.out ⟨H4.out, H4.out⟩ (Fr.of HB3.out (Nat.le_refl _))) (pw_cell_below HB3.out HM.out) (Nat.lt_of_lt_of_le H4.out HB3.out.size) hs).mono ?_); rintro e w4 ⟨⟨vo, vl, rfl, ho, hl⟩, hb4⟩; have HO4 := Aside0.mk ho; have HL4 := Aside0.mk hl; have HB4 := Aside0.mk (HB3.out.trans (hb4.mono HB3.out.size)); clear ho hl hb4)
  obtain ⟨ks, hks⟩ := split_eq s hs
  have HKS := Aside0.mk hks
  have HTOT := Aside0.mk (show tot (linesOf s) ≤ 1048576 from Nat.le_trans (tot_split s _) hs)
  have HLEN := Aside0.mk (show 1 ≤ (linesOf s).length ∧ (linesOf s).length ≤ 1048577 by
    have h1 : (linesOf s).length = Lib.countB s ⟨#[10]⟩ + 1 := Lib.splitB_all ⟨#[10]⟩ (by decide) 0 _ s rfl
    have h2 := Lib.countB_le ⟨#[10]⟩ (by decide) s.size s (Nat.le_refl _)
    omega)
  have HREF := Aside0.mk (import_ref s)
  clear hks
  have HMK := Aside0.mk (fun W => Marked_ok toks (fun y => toks_len y.size y (Nat.le_refl _)) (fun y hy => tokens_eq y hy) ks s (linesOf s) W HKS.out HTOT.out HLEN.out.1 HLEN.out.2)
  rw [HREF.out.1, HREF.out.2] at HMK
  obtain ⟨o, ho⟩ : ∃ o, (impR s).o = o := ⟨_, rfl⟩
  obtain ⟨l, hl⟩ : ∃ l, (impR s).l = l := ⟨_, rfl⟩
  rw [ho, hl] at HMK
  rw [ho] at HO4
  rw [hl] at HL4
  clear ho hl HKS HREF
  go_upto_region 6 with (go_at_call 6; (refine (HMK.out _).mono ?_); rintro e w5 ⟨⟨vo2, vl2, rfl, ho, hl⟩, hb5⟩; have HO5 := Aside0.mk ho; have HL5 := Aside0.mk hl; have HO4b := Aside0.mk (Kd.R_below HO4.out hb5); have HL4b := Aside0.mk (Kd.R_below HL4.out hb5); have HB5 := Aside0.mk (HB4.out.trans (hb5.mono HB4.out.size)); clear ho hl hb5)
  obtain ⟨A4, c4, hv4, hc4, hC4⟩ := Kd.R_reads HO4b.out
  obtain ⟨A5, c5, hv5, hc5, hC5⟩ := Kd.R_reads HO5.out
  obtain ⟨B4, d4, hw4, hd4, hD4⟩ := Kd.R_reads HL4b.out
  obtain ⟨B5, d5, hw5, hd5, hD5⟩ := Kd.R_reads HL5.out
  subst hv4 hv5 hw4 hw5
  have HF := Aside0.mk (flow_call A4 c4 A5 c5 o w5 hC4 hc4 hC5 hc5)
  have HG := Aside0.mk (And.intro hD4 (And.intro hd4 (And.intro hD5 hd5)))
  clear hc4 hC4 hc5 hC5 hd4 hD4 hd5 hD5
  go_wp2_with (first
    | (go_at_call 7; (refine HF.out.mono ?_); rintro e w6 ⟨rfl, hb6⟩; have HB6 := Aside0.mk (HB5.out.trans (hb6.mono HB5.out.size)); have HG6 := Aside0.mk (loss_call B4 d4 B5 d5 l w6 (Kd.C_below HG.out.1 hb6) HG.out.2.1 (Kd.C_below HG.out.2.2.1 hb6) HG.out.2.2.2); clear hb6)
    | (go_at_call 8; (refine HG6.out.mono ?_); rintro e w7 ⟨rfl, hb7⟩; have HB7 := Aside0.mk (HB6.out.trans (hb7.mono HB6.out.size)); clear hb7))
  go_ret
  exact ⟨rfl, HB7.out⟩
end Go.Proofs.YtmjdeejccmcpnabDoor.Q
