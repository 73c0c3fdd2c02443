/- line: the machine of a line's text, in plain words, and the walk. -/
import Derived.Test.YtmjdeejccmcpnabDoorF0
import Derived.Lib.TrimUEq
import Derived.Shelf.Unicode.DecodeLastEight
namespace Go.Proofs.YtmjdeejccmcpnabDoor.Q
open Go.RowKit Go.Proofs.YtmjdeejccmcpnabDoorW.PrintWords Go.Proofs.YtmjdeejccmcpnabDoorW.PrintLast Go.Proofs.YtmjdeejccmcpnabDoorW.PrintMore
set_option linter.unusedVariables false
set_option linter.unusedSimpArgs false
def tl (s : ByteArray) (k : Nat) : ByteArray := s.extract k s.size
theorem tl_list (s : ByteArray) (k : Nat) : (tl s k).data.toList = s.data.toList.drop k := ext_list s k
theorem size_list (s : ByteArray) : s.size = s.data.toList.length := by simp
theorem tl_size (s : ByteArray) (k : Nat) : (tl s k).size = s.size - k := by rw [size_list, tl_list, List.length_drop, ← size_list]
structure LS where
  s : ByteArray
  stop : Int
  af : ByteArray
  st : Rdr
def hd (s : ByteArray) : Nat := (s.data.toList.headD 0).toNat
theorem hd_at (s : ByteArray) (h : 0 < s.size) : hd s = (s[0]'h).toNat := by
  have := drop_cons s 0 h
  rw [List.drop_zero] at this
  unfold hd
  rw [this]
  rfl
/-- the link that begins at a text's head -/
def lnk (s : ByteArray) (st : Rdr) : Option (List UInt8 × Nat × Nat) :=
  if hd s = 91 ∧ st.k.size = 0 then (match targetO (s.data.toList.drop 1) with | some (b, a, e) => if 0 < b.length then some (b, a, e) else none | none => none) else none
def chStep (x : LS) (s : ByteArray) : LS := { x with s := tl s (Lib.decodeGo s).2, st := chS s x.st }
def lstep (x : LS) : LS :=
  if (x.s.size : Int) = x.stop then { x with s := x.af, stop := -1, st := { x.st with k := ⟨#[]⟩ } }
  else if hd x.s = 92 ∧ 1 < x.s.size then chStep x (tl x.s 1)
  else if 0 < togN x.s.data.toList then { x with s := tl x.s (togN x.s.data.toList), st := togS x.s.data.toList x.st }
  else match lnk x.s x.st with
    | some (b, a, e) => { s := tl x.s 1, stop := (x.s.size : Int) - 1 - (a : Int), af := tl x.s (1 + e), st := { x.st with k := ⟨b.toArray⟩ } }
    | none => chStep x x.s
def run : Nat → LS → LS
  | 0, x => x
  | n + 1, x => if x.s.size = 0 then x else run n (lstep x)
/-- the machine to its end -/
def fin (x : LS) : LS := run x.s.size x
theorem dec_pos (s : ByteArray) (h : 0 < s.size) : 1 ≤ (Lib.decodeGo s).2 := by
  unfold Lib.decodeGo
  rw [if_neg (by omega)]
  exact Lib.width_pos _ _
theorem dec_rune (s : ByteArray) : ((Lib.decodeGo s).1 : Int) ≤ 2147483647 := by
  unfold Lib.decodeGo
  split
  · decide
  · have := Lib.rune_le s 0; omega
theorem dec_size (s : ByteArray) : (Lib.decodeGo s).2 ≤ s.size := Lib.decodeGo_le_size s
theorem chS_len (s : ByteArray) (st : Rdr) : (chS s st).o.length = st.o.length + 1 ∧ (chS s st).l.length ≤ st.l.length + 1 := by
  unfold chS
  constructor
  · simp
  · show (if _ then _ else _ : List S38).length ≤ _
    split <;> simp
theorem togS_len (l : List UInt8) (st : Rdr) : (togS l st).o = st.o ∧ (togS l st).l = st.l ∧ (togS l st).k = st.k := by
  unfold togS
  repeat' split
  all_goals exact ⟨rfl, rfl, rfl⟩
theorem pre_len {l p : List UInt8} (h : Lib.hasPrefix l p = true) : p.length ≤ l.length := (List.isPrefixOf_iff_prefix.1 h).length_le
theorem togN_le (l : List UInt8) : togN l ≤ l.length := by
  unfold togN
  repeat' split
  all_goals first | omega | (rename_i h; have := pre_len h; simpa using this)
theorem scan_lt : ∀ (n : Nat) (l : List UInt8) (a k : Nat), l.length ≤ n → scan l a = some k → a ≤ k ∧ k + 2 ≤ a + l.length
  | n, [], a, k, _, h => by rw [scan_nil] at h; cases h
  | 0, c :: r, a, k, hl, h => by simp at hl
  | n + 1, c :: r, a, k, hl, h => by
    rw [scan_cons] at h
    simp only [List.length_cons] at hl ⊢
    split at h
    · cases h
    · split at h
      · have := scan_lt n (r.drop 1) (a + 2) k (by simp; omega) h
        simp at this
        omega
      · split at h
        · rename_i hp
          have := pre_len hp
          simp at this
          cases h
          omega
        · have := scan_lt n r (a + 1) k (by omega) h
          omega
theorem dest_lt : ∀ (n : Nat) (l : List UInt8) (i : Nat) (b b' : List UInt8) (e : Nat), l.length ≤ n → dest l i b = some (b', e) → i < e ∧ e ≤ i + l.length
  | n, [], i, b, b', e, _, h => by rw [dest_nil] at h; cases h
  | 0, c :: r, i, b, b', e, hl, h => by simp at hl
  | n + 1, c :: r, i, b, b', e, hl, h => by
    rw [dest_cons] at h
    simp only [List.length_cons] at hl ⊢
    split at h
    · cases h
    · split at h
      · cases h
        omega
      · split at h
        · cases r with
          | nil => cases h
          | cons c' r' =>
            simp only at h
            split at h
            · cases h
            · have := dest_lt n r' (i + 2) _ b' e (by simp at hl; omega) h
              simp
              omega
        · split at h
          · cases h
          · have := dest_lt n r (i + 1) _ b' e (by omega) h
            omega
theorem target_lt {l b : List UInt8} {a e : Nat} (h : targetO l = some (b, a, e)) : a + 2 < e ∧ e ≤ l.length := by
  unfold targetO at h
  split at h
  · cases h
  · rename_i k hk
    split at h
    · cases h
    · rename_i b' e' hd'
      cases h
      have h1 := scan_lt _ l 0 _ (Nat.le_refl _) hk
      have h2 := dest_lt _ _ _ _ _ _ (Nat.le_refl _) hd'
      simp at h2
      omega
theorem lnk_lt {s : ByteArray} {st : Rdr} {b : List UInt8} {a e : Nat} (h : lnk s st = some (b, a, e)) : a + 2 < e ∧ 1 + e ≤ s.size ∧ hd s = 91 ∧ st.k.size = 0 ∧ 0 < b.length ∧ targetO (s.data.toList.drop 1) = some (b, a, e) := by
  unfold lnk at h
  split at h
  · rename_i hh
    split at h
    · rename_i b' a' e' ht
      split at h
      · cases h
        have := target_lt ht
        simp at this
        refine ⟨this.1, ?_, hh.1, hh.2, by assumption, ht⟩
        omega
      · cases h
    · cases h
  · cases h
/-- what stays true of the machine -/
structure LI (M : Nat) (x : LS) : Prop where
  stop : x.stop = -1 ∨ (x.af.size : Int) < x.stop
  o : x.st.o.length + x.s.size ≤ M
  l : x.st.l.length + x.s.size ≤ M
theorem LI.step {M : Nat} {x : LS} (h : LI M x) (h0 : 0 < x.s.size) : LI M (lstep x) ∧ (lstep x).s.size < x.s.size := by
  obtain ⟨h1, h2, h3⟩ := h
  unfold lstep
  split
  · refine ⟨⟨.inl rfl, ?_, ?_⟩, ?_⟩ <;> (simp only; omega)
  · split
    · have hs : 0 < (tl x.s 1).size := by rw [tl_size]; omega
      have e1 := dec_pos _ hs
      have e2 := dec_size (tl x.s 1)
      have e3 := chS_len (tl x.s 1) x.st
      rw [tl_size] at e2
      unfold chStep
      refine ⟨⟨h1, ?_, ?_⟩, ?_⟩ <;> (simp only [tl_size]; omega)
    · split
      · have e1 := togN_le x.s.data.toList
        rw [← size_list] at e1
        obtain ⟨e2, e3, e4⟩ := togS_len x.s.data.toList x.st
        refine ⟨⟨h1, ?_, ?_⟩, ?_⟩ <;> (simp only [tl_size, e2, e3]; omega)
      · split
        · rename_i b a e hl
          have := lnk_lt hl
          refine ⟨⟨.inr ?_, ?_, ?_⟩, ?_⟩ <;> (simp only [tl_size]; omega)
        · have e1 := dec_pos _ h0
          have e2 := dec_size x.s
          have e3 := chS_len x.s x.st
          unfold chStep
          refine ⟨⟨h1, ?_, ?_⟩, ?_⟩ <;> (simp only [tl_size]; omega)
theorem run_done (n : Nat) (x : LS) (h : x.s.size = 0) : run n x = x := by
  cases n with
  | zero => rfl
  | succ n => exact if_pos h
theorem run_enough {M : Nat} : ∀ (n : Nat) (x : LS), LI M x → x.s.size ≤ n → run n x = fin x
  | 0, x, _, h => by
    have h0 : x.s.size = 0 := by omega
    unfold fin
    rw [h0]
  | n + 1, x, hI, h => by
    rcases Nat.eq_zero_or_pos x.s.size with h0 | h0
    · rw [run_done _ _ h0]
      unfold fin
      rw [run_done _ _ h0]
    · obtain ⟨m, hm⟩ : ∃ m, x.s.size = m + 1 := ⟨x.s.size - 1, by omega⟩
      have hs := hI.step h0
      have e1 : run (n + 1) x = run n (lstep x) := if_neg (by omega)
      have e2 : fin x = run m (lstep x) := by
        unfold fin
        rw [hm]
        exact if_neg (by omega)
      rw [e1, e2, run_enough n _ hs.1 (by omega), run_enough m _ hs.1 (by omega)]
theorem fin_step {M : Nat} {x : LS} (h : LI M x) (h0 : 0 < x.s.size) : fin (lstep x) = fin x := by
  obtain ⟨m, hm⟩ : ∃ m, x.s.size = m + 1 := ⟨x.s.size - 1, by omega⟩
  have hs := h.step h0
  have e2 : fin x = run m (lstep x) := by
    unfold fin
    rw [hm]
    exact if_neg (by omega)
  rw [e2, run_enough m _ hs.1 (by omega)]
theorem fin_done (x : LS) (h : x.s.size = 0) : fin x = x := run_done _ _ h
theorem fin_LI {M : Nat} : ∀ (n : Nat) (x : LS), x.s.size ≤ n → LI M x → LI M (fin x)
  | 0, x, h, hI => by rw [fin_done x (by omega)]; exact hI
  | n + 1, x, h, hI => by
    rcases Nat.eq_zero_or_pos x.s.size with h0 | h0
    · rw [fin_done x h0]; exact hI
    · have hs := hI.step h0
      rw [← fin_step hI h0]
      exact fin_LI n _ (by omega) hs.1
end Go.Proofs.YtmjdeejccmcpnabDoor.Q
