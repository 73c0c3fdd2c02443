/- MarkedLine: the reference's machine of a line, in plain words, and the walk. -/
import Derived.Test.YtmjdeejccmcpnabDoorJ0
namespace Go.Proofs.YtmjdeejccmcpnabDoor.Q
open Go.RowKit Go.Proofs.YtmjdeejccmcpnabDoorW.PrintWords Go.Proofs.YtmjdeejccmcpnabDoorW.PrintLast Go.Proofs.YtmjdeejccmcpnabDoorW.PrintMore
set_option linter.unusedVariables false
set_option linter.unusedSimpArgs false
structure MS where
  i : Nat
  o : List S30
  ls : List S38
  b0 : Bool
  b1 : Bool
  b2 : Bool
  b3 : Bool
  k : ByteArray
  en : Int
  bh : Nat
def sLink : ByteArray := ⟨#[108, 105, 110, 107]⟩
def sOn : ByteArray := ⟨#[111, 110]⟩
def nmB : ByteArray := ⟨#[98, 111, 108, 100]⟩
def nmF : ByteArray := ⟨#[102, 105, 120, 101, 100]⟩
def nmI : ByteArray := ⟨#[105, 116, 97, 108, 105, 99]⟩
def nmS : ByteArray := ⟨#[115, 116, 114, 105, 107, 101]⟩
/-- the attributes of a character, up to a place of the four names -/
def mat1 (x : MS) : List S32 := if x.b0 then [⟨nmB, sOn⟩] else []
def mat2 (x : MS) : List S32 := mat1 x ++ if x.b1 then [⟨nmF, sOn⟩] else []
def mat3 (x : MS) : List S32 := mat2 x ++ if x.b2 then [⟨nmI, sOn⟩] else []
def mat3l (x : MS) : List S32 := mat3 x ++ if x.k.size = 0 then [] else [⟨sLink, x.k⟩]
def mat4 (x : MS) : List S32 := mat3l x ++ if x.b3 then [⟨nmS, sOn⟩] else []
theorem mat_len (x : MS) : (mat1 x).length ≤ 1 ∧ (mat2 x).length ≤ 2 ∧ (mat3 x).length ≤ 3 ∧ (mat3l x).length ≤ 4 ∧ (mat4 x).length ≤ 5 := by
  have h1 : (mat1 x).length ≤ 1 := by unfold mat1; split <;> simp
  have h2 : (mat2 x).length ≤ 2 := by unfold mat2; rw [List.length_append]; split <;> simp <;> omega
  have h3 : (mat3 x).length ≤ 3 := by unfold mat3; rw [List.length_append]; split <;> simp <;> omega
  have h4 : (mat3l x).length ≤ 4 := by unfold mat3l; rw [List.length_append]; split <;> simp <;> omega
  have h5 : (mat4 x).length ≤ 5 := by unfold mat4; rw [List.length_append]; split <;> simp <;> omega
  exact ⟨h1, h2, h3, h4, h5⟩
def nxt (l : List S66) (i : Nat) (c : Int) : Bool := match l[i + 1]? with | some u => isT u c | none => false
def mlnk (l : List S66) (t : S66) (x : MS) : Option (List UInt8 × Nat × Nat) := if isT t 91 = true ∧ x.k.size = 0 then lkS (l.drop (x.i + 1)) (x.i + 1) else none
def mchar (frm : Int) (t : S66) (x : MS) : MS :=
  { x with i := x.i + 1, ls := if t.f3 = true then x.ls ++ [⟨5, 0, frm + (x.o.length : Int), 0, ⟨#[]⟩⟩] else x.ls, o := x.o ++ [⟨t.f0, 0, mat4 x⟩] }
def mtail (l : List S66) (frm : Int) (t : S66) (x : MS) : MS :=
  match mlnk l t x with
  | some (b, k, m) => { x with k := ⟨b.toArray⟩, en := (k : Int), bh := m, i := x.i + 1 }
  | none => mchar frm t x
theorem mtail_none {l : List S66} {frm : Int} {t : S66} {x : MS} (h : mlnk l t x = none) : mtail l frm t x = mchar frm t x := by unfold mtail; rw [h]
theorem mtail_some {l : List S66} {frm : Int} {t : S66} {x : MS} {b : List UInt8} {k m : Nat} (h : mlnk l t x = some (b, k, m)) : mtail l frm t x = { x with k := ⟨b.toArray⟩, en := (k : Int), bh := m, i := x.i + 1 } := by unfold mtail; rw [h]
def mtok (l : List S66) (frm : Int) (t : S66) (x : MS) : MS :=
  if (isT t 42 && nxt l x.i 42) = true then { x with b0 := !x.b0, i := x.i + 2 }
  else if isT t 42 = true then { x with b2 := !x.b2, i := x.i + 1 }
  else if (isT t 126 && nxt l x.i 126) = true then { x with b3 := !x.b3, i := x.i + 2 }
  else if isT t 96 = true then { x with b1 := !x.b1, i := x.i + 1 }
  else mtail l frm t x
def mstep (l : List S66) (frm : Int) (x : MS) : MS :=
  if (x.i : Int) = x.en then { x with k := ⟨#[]⟩, en := -1, i := x.bh }
  else match l[x.i]? with
    | some t => mtok l frm t x
    | none => x
def mrun (l : List S66) (frm : Int) : Nat → MS → MS
  | 0, x => x
  | n + 1, x => if l.length ≤ x.i then x else mrun l frm n (mstep l frm x)
def mfin (l : List S66) (frm : Int) (x : MS) : MS := mrun l frm (l.length - x.i) x
/-- what stays true -/
structure MI (l : List S66) (x : MS) : Prop where
  i : x.i ≤ l.length
  en : x.en = -1 ∨ (x.en < (x.bh : Int) ∧ x.bh ≤ l.length)
  o : x.o.length ≤ x.i
  l : x.ls.length ≤ x.i
theorem lkD_lt {kk : Nat} : ∀ (l : List S66) (m : Nat) (b b' : List UInt8) (k e : Nat), lkD kk l m b = some (b', k, e) → k = kk ∧ m < e ∧ e ≤ m + l.length ∧ 0 < b'.length
  | [], m, b, b', k, e, h => by cases h
  | t :: r, m, b, b', k, e, h => by
    rw [lkD_cons] at h
    simp only [List.length_cons]
    split at h
    · split at h
      · cases h
      · cases h
        omega
    · split at h
      · cases h
      · have := lkD_lt r (m + 1) _ b' k e h
        omega
theorem lkS_lt : ∀ (l : List S66) (m : Nat) (b : List UInt8) (k e : Nat), lkS l m = some (b, k, e) → m ≤ k ∧ k + 1 < e ∧ e ≤ m + l.length ∧ 0 < b.length
  | [], m, b, k, e, h => by cases h
  | t :: r, m, b, k, e, h => by
    rw [lkS_cons] at h
    simp only [List.length_cons]
    split at h
    · cases h
    · split at h
      · have := lkD_lt _ _ _ _ _ _ h
        simp only [List.length_drop] at this
        omega
      · have := lkS_lt r (m + 1) b k e h
        omega
theorem mlnk_lt {l : List S66} {t : S66} {x : MS} {b : List UInt8} {k e : Nat} (hx : x.i < l.length) (h : mlnk l t x = some (b, k, e)) : x.i + 1 ≤ k ∧ k + 1 < e ∧ e ≤ l.length ∧ 0 < b.length := by
  unfold mlnk at h
  split at h
  · have := lkS_lt _ _ _ _ _ h
    simp only [List.length_drop] at this
    omega
  · cases h
theorem nxt_lt {l : List S66} {i : Nat} {c : Int} (h : nxt l i c = true) : i + 1 < l.length := by
  unfold nxt at h
  split at h
  · rename_i u hu
    exact (List.getElem?_eq_some_iff.1 hu).1
  · cases h
theorem MI.step {l : List S66} {frm : Int} {x : MS} (h : MI l x) (h0 : x.i < l.length) : MI l (mstep l frm x) ∧ x.i < (mstep l frm x).i := by
  obtain ⟨h1, h2, h3, h4⟩ := h
  unfold mstep
  split
  · refine ⟨⟨?_, .inl rfl, ?_, ?_⟩, ?_⟩ <;> (simp only; omega)
  · rw [List.getElem?_eq_getElem h0]
    simp only
    unfold mtok
    split
    · rename_i hc
      have := nxt_lt (Bool.and_eq_true_iff.1 hc).2
      refine ⟨⟨?_, h2, ?_, ?_⟩, ?_⟩ <;> (simp only; omega)
    · split
      · refine ⟨⟨?_, h2, ?_, ?_⟩, ?_⟩ <;> (simp only; omega)
      · split
        · rename_i hc
          have := nxt_lt (Bool.and_eq_true_iff.1 hc).2
          refine ⟨⟨?_, h2, ?_, ?_⟩, ?_⟩ <;> (simp only; omega)
        · split
          · refine ⟨⟨?_, h2, ?_, ?_⟩, ?_⟩ <;> (simp only; omega)
          · unfold mtail
            split
            · rename_i b k e hl
              have := mlnk_lt h0 hl
              refine ⟨⟨?_, .inr ?_, ?_, ?_⟩, ?_⟩ <;> (simp only; omega)
            · unfold mchar
              refine ⟨⟨?_, h2, ?_, ?_⟩, ?_⟩
              · simp only; omega
              · simp; omega
              · simp only
                split
                · simp; omega
                · omega
              · simp only; omega
theorem mrun_done (l : List S66) (frm : Int) (n : Nat) (x : MS) (h : l.length ≤ x.i) : mrun l frm n x = x := by
  cases n with
  | zero => rfl
  | succ n => exact if_pos h
theorem mrun_enough {l : List S66} {frm : Int} : ∀ (n : Nat) (x : MS), MI l x → l.length - x.i ≤ n → mrun l frm n x = mfin l frm x
  | 0, x, _, h => by
    have h0 : l.length - x.i = 0 := by omega
    unfold mfin
    rw [h0]
  | n + 1, x, hI, h => by
    rcases Nat.lt_or_ge x.i l.length with h0 | h0
    · obtain ⟨m, hm⟩ : ∃ m, l.length - x.i = m + 1 := ⟨l.length - x.i - 1, by omega⟩
      have hs := hI.step (frm := frm) h0
      have e1 : mrun l frm (n + 1) x = mrun l frm n (mstep l frm x) := if_neg (by omega)
      have e2 : mfin l frm x = mrun l frm m (mstep l frm x) := by
        unfold mfin
        rw [hm]
        exact if_neg (by omega)
      rw [e1, e2, mrun_enough n _ hs.1 (by omega), mrun_enough m _ hs.1 (by omega)]
    · rw [mrun_done _ _ _ _ h0]
      unfold mfin
      rw [mrun_done _ _ _ _ h0]
theorem mfin_step {l : List S66} {frm : Int} {x : MS} (h : MI l x) (h0 : x.i < l.length) : mfin l frm (mstep l frm x) = mfin l frm x := by
  obtain ⟨m, hm⟩ : ∃ m, l.length - x.i = m + 1 := ⟨l.length - x.i - 1, by omega⟩
  have hs := h.step (frm := frm) h0
  have e2 : mfin l frm x = mrun l frm m (mstep l frm x) := by
    unfold mfin
    rw [hm]
    exact if_neg (by omega)
  rw [e2, mrun_enough m _ hs.1 (by omega)]
theorem mfin_done (l : List S66) (frm : Int) (x : MS) (h : l.length ≤ x.i) : mfin l frm x = x := mrun_done _ _ _ _ h
def m0 : MS := ⟨0, [], [], false, false, false, false, ⟨#[]⟩, -1, 0⟩
theorem MI_m0 (l : List S66) : MI l m0 := ⟨Nat.zero_le _, .inl rfl, Nat.le_refl _, Nat.le_refl _⟩
end Go.Proofs.YtmjdeejccmcpnabDoor.Q
