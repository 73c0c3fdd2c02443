/- Marked: lengths, the lines in memory. -/
import Derived.Test.YtmjdeejccmcpnabDoorL0
import Derived.Test.YtmjdeejccmcpnabDoorK1
namespace Go.Proofs.YtmjdeejccmcpnabDoor.Q
open Go.RowKit Go.Proofs.YtmjdeejccmcpnabDoorW.PrintWords Go.Proofs.YtmjdeejccmcpnabDoorW.PrintLast Go.Proofs.YtmjdeejccmcpnabDoorW.PrintMore
set_option linter.unusedVariables false
set_option linter.unusedSimpArgs false
theorem mrun_MI {l : List S66} {frm : Int} : ∀ (n : Nat) (x : MS), MI l x → MI l (mrun l frm n x)
  | 0, x, h => h
  | n + 1, x, h => by
    rcases Nat.lt_or_ge x.i l.length with h0 | h0
    · rw [show mrun l frm (n + 1) x = mrun l frm n (mstep l frm x) from if_neg (by omega)]
      exact mrun_MI n _ (h.step h0).1
    · rw [mrun_done _ _ _ _ h0]
      exact h
theorem mfin_len (l : List S66) (frm : Int) : (mfin l frm m0).o.length ≤ l.length ∧ (mfin l frm m0).ls.length ≤ l.length := by
  have h : MI l (mfin l frm m0) := mrun_MI _ _ (MI_m0 l)
  exact ⟨Nat.le_trans h.o h.i, Nat.le_trans h.l h.i⟩
structure RP where
  o : List S30
  ls : List S38
def rpara (tk : ByteArray → List S66) (st : RP) (l : ByteArray) : RP :=
  ⟨st.o ++ (mfin (tk (marksR l).1) (st.o.length : Int) m0).o ++ [⟨10, 0, (marksR l).2⟩], st.ls ++ (mfin (tk (marksR l).1) (st.o.length : Int) m0).ls⟩
def rst (tk : ByteArray → List S66) (L : List ByteArray) (k : Nat) : RP := (L.take k).foldl (rpara tk) ⟨[], []⟩
theorem rst_succ (tk : ByteArray → List S66) (L : List ByteArray) (k : Nat) (h : k < L.length) : rst tk L (k + 1) = rpara tk (rst tk L k) L[k] := by
  unfold rst
  rw [List.take_succ_eq_append_getElem h, List.foldl_append]
  rfl
def mxr (st : RP) : Nat := max st.o.length st.ls.length
theorem rpara_len (tk : ByteArray → List S66) (htk : ∀ y, (tk y).length ≤ y.size) (st : RP) (l : ByteArray) : mxr (rpara tk st l) ≤ mxr st + l.size + 1 := by
  have h1 := mfin_len (tk (marksR l).1) (st.o.length : Int)
  have h2 := marksR_le l
  have h3 := htk (marksR l).1
  unfold mxr rpara
  simp only [List.length_append, List.length_singleton]
  omega
theorem rfold_len (tk : ByteArray → List S66) (htk : ∀ y, (tk y).length ≤ y.size) : ∀ (l : List ByteArray) (st : RP), mxr (l.foldl (rpara tk) st) ≤ mxr st + tot l + l.length
  | [], st => by simp [tot]
  | a :: r, st => by
    have h1 := rfold_len tk htk r (rpara tk st a)
    have h2 := rpara_len tk htk st a
    rw [tot_cons, List.foldl_cons, List.length_cons]
    omega
theorem rst_len (tk : ByteArray → List S66) (htk : ∀ y, (tk y).length ≤ y.size) (L : List ByteArray) (k : Nat) : mxr (rst tk L k) ≤ tot (L.take k) + k := by
  have h := rfold_len tk htk (L.take k) ⟨[], []⟩
  have e : mxr ⟨[], []⟩ = 0 := rfl
  have h2 : (L.take k).length ≤ k := List.length_take_le _ _
  unfold rst
  omega
theorem ba_ext {s t : ByteArray} (h : s.data.toList = t.data.toList) : s = t := by
  cases s; cases t
  congr 1
  exact Array.toList_inj.1 h
theorem last_split (s : ByteArray) (h : 0 < s.size) : s.data.toList = s.data.toList.take (s.size - 1) ++ [s[s.size - 1]'(by omega)] := by
  have h2 := drop_cons s (s.size - 1) (by omega)
  rw [show s.size - 1 + 1 = s.size by omega, drop_nil s s.size (Nat.le_refl _)] at h2
  conv => lhs; rw [← List.take_append_drop (s.size - 1) s.data.toList, h2]
theorem suff_iff (s : ByteArray) (h : 0 < s.size) : Lib.hasSuffix s.data.toList [13] = true ↔ (s[s.size - 1]'(by omega)).toNat = 13 := by
  unfold Lib.hasSuffix
  rw [List.isSuffixOf_iff_suffix]
  constructor
  · rintro ⟨t, ht⟩
    rw [last_split s h] at ht
    have h3 := (List.append_inj' ht rfl).2
    rw [← (List.cons.inj h3).1]
    rfl
  · intro hl
    have h3 : s[s.size - 1]'(by omega) = 13 := UInt8.toNat_inj.1 hl
    rw [last_split s h, h3]
    exact ⟨_, rfl⟩
theorem cut13_yes (s : ByteArray) (h : 0 < s.size) (hl : (s[s.size - 1]'(by omega)).toNat = 13) : cut13 s = s.extract 0 (s.size - 1) := by
  refine ba_ext ?_
  rw [extract_0]
  show Lib.trimSuffix s.data.toList [13] = _
  unfold Lib.trimSuffix
  rw [if_pos ((suff_iff s h).2 hl), ← size_list]
  rfl
theorem cut13_no (s : ByteArray) (h : 0 < s.size → (s[s.size - 1]?.getD 0).toNat ≠ 13) : cut13 s = s := by
  refine ba_ext ?_
  show Lib.trimSuffix s.data.toList [13] = _
  unfold Lib.trimSuffix
  rw [if_neg]
  intro hs
  rcases Nat.eq_zero_or_pos s.size with h0 | h0
  · unfold Lib.hasSuffix at hs
    rw [List.isSuffixOf_iff_suffix] at hs
    have := hs.length_le
    rw [← size_list] at this
    simp at this
    omega
  · have h1 := h h0
    rw [getElem?_pos s (s.size - 1) (by omega)] at h1
    exact h1 ((suff_iff s h0).1 hs)
/-- the lines in memory -/
def Ln (w : World) (a : Addr) (ls : List ByteArray) : Prop := ∀ k x, ls[k]? = some x → w.cell? (a.add k) = some (.string x)
theorem Ln.of {w : World} {a : Addr} {ls : List ByteArray} (h : Kd.C Kd.string w (some a) ls.length ls) : Ln w a ls := by
  intro k x hx
  have hk : k < ls.length := (List.getElem?_eq_some_iff.1 hx).1
  obtain ⟨ad, c, e, _, hK, hc0⟩ := Kd.C_get h ⟨#[]⟩ (k : Int) (by omega) (by omega)
  have hc : ∀ j u, c[j]? = some u → w.cell? (ad.add ((k : Int).toNat * 1 + j)) = some u := hc0
  cases e
  have e2 : ls.getD (k : Int).toNat ⟨#[]⟩ = x := by rw [Int.toNat_natCast, List.getD_eq_getElem?_getD, hx]; rfl
  rw [e2] at hK
  have hK2 : c = [.string x] := hK
  have hq := hc 0 (.string x) (by rw [hK2]; rfl)
  rwa [Nat.mul_one, Nat.add_zero, Int.toNat_natCast] at hq
theorem Ln.below {w w' : World} {a : Addr} {ls : List ByteArray} (h : Ln w a ls) (hb : Below w.heap.size w w') : Ln w' a ls := fun k x e => pw_cell_below hb (h k x e)
end Go.Proofs.YtmjdeejccmcpnabDoor.Q
