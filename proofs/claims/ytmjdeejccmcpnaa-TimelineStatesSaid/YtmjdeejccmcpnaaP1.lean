/- The plain law, part 2: the times are the bases; how much of an effect has happened. -/
import Derived.Test.YtmjdeejccmcpnaaP0
namespace Go.Proofs.Ytmjdeejccmcpnaa.Q
open Go.RowKit Go.Proofs.YtmjdeejccmcpnaaW.PrintWords Go.Proofs.YtmjdeejccmcpnaaW.PrintLast Go.Proofs.YtmjdeejccmcpnaaW.PrintMore
set_option linter.unusedVariables false
set_option linter.unusedSimpArgs false
def AllValid (l : List S37) : Prop := ∀ j : Nat, j < l.length → Valid (rd_T37 l (j : Int))
theorem rd45_append_lt (o : List S45) (y : S45) (j : Nat) (h : j < o.length) : rd_T45 (o ++ [y]) (j : Int) = rd_T45 o (j : Int) := by
  unfold rd_T45
  rw [Int.toNat_natCast, List.getD_eq_getElem?_getD, List.getD_eq_getElem?_getD, List.getElem?_append_left h]
theorem rd45_append_eq (o : List S45) (y : S45) : rd_T45 (o ++ [y]) (o.length : Int) = y := by
  unfold rd_T45
  rw [Int.toNat_natCast, List.getD_eq_getElem?_getD]
  simp
theorem maxTo_append (o : List S45) (y : S45) (c : Int) (j : Nat) (h : j ≤ o.length) : maxTo (o ++ [y]) c j = maxTo o c j := by
  induction j with
  | zero => rfl
  | succ j ih =>
    simp only [maxTo]
    rw [ih (by omega), rd45_append_lt _ _ _ (by omega)]
theorem maxTo_none (o : List S45) (c : Int) (j : Nat) (h : ∀ i : Nat, i < j → (rd_T45 o (i : Int)).f0 ≠ c) : maxTo o c j = 0 := by
  induction j with
  | zero => rfl
  | succ j ih =>
    simp only [maxTo]
    rw [if_neg (h j (by omega)), ih (fun i hi => h i (by omega))]
/-- the bounds of clicks and bases -/
def BInv (l : List S37) (k : Nat) : Prop :=
  0 ≤ (bTo l k).2 ∧ (bTo l k).2 ≤ k ∧ ∀ j : Nat, j < k →
    (rd_T45 (bTo l k).1 (j : Int)).f0 ≤ (bTo l k).2 ∧ 0 ≤ (rd_T45 (bTo l k).1 (j : Int)).f0 ∧ 0 ≤ (rd_T45 (bTo l k).1 (j : Int)).f1 - (rd_T37 l (j : Int)).f3 ∧
    (rd_T45 (bTo l k).1 (j : Int)).f1 ≤ (rd_T45 (bTo l k).1 (j : Int)).f2 ∧ (rd_T45 (bTo l k).1 (j : Int)).f2 ≤ (j + 1) * 20000000
theorem maxTo_le (o : List S45) (c : Int) (j : Nat) (m : Int) (hm : 0 ≤ m) (h : ∀ i : Nat, i < j → (rd_T45 o (i : Int)).f2 ≤ m) : 0 ≤ maxTo o c j ∧ maxTo o c j ≤ m := by
  induction j with
  | zero => exact ⟨by simp [maxTo], hm⟩
  | succ j ih =>
    obtain ⟨h1, h2⟩ := ih (fun i hi => h i (by omega))
    have h3 := h j (by omega)
    simp only [maxTo]
    split
    · unfold mx; split <;> omega
    · exact ⟨h1, h2⟩
theorem bBase_bd (l : List S37) (k : Nat) (hk : k < l.length) (hl : l.length ≤ 30) (hv : AllValid l) (h : BInv l k) : 0 ≤ bBase (bTo l k).1 (bTo l k).2 (rd_T37 l (k : Int)) (rd_T37 l ((k - 1 : Nat) : Int)) k ∧ bBase (bTo l k).1 (bTo l k).2 (rd_T37 l (k : Int)) (rd_T37 l ((k - 1 : Nat) : Int)) k ≤ k * 20000000 := by
  obtain ⟨h1, h2, h3⟩ := h
  unfold bBase
  split
  · exact ⟨by omega, by omega⟩
  split
  · exact ⟨by omega, by omega⟩
  split
  · obtain ⟨a, b, c, d, e⟩ := h3 (k - 1) (by omega)
    have hv3 := (hv (k - 1) (by omega)).2.2.2.1
    have hw : wrap64 ((rd_T45 (bTo l k).1 ((k - 1 : Nat) : Int)).f1 - (rd_T37 l ((k - 1 : Nat) : Int)).f3) = (rd_T45 (bTo l k).1 ((k - 1 : Nat) : Int)).f1 - (rd_T37 l ((k - 1 : Nat) : Int)).f3 := by unfold wrap64; omega
    rw [hw]
    omega
  · have := maxTo_le (bTo l k).1 (bTo l k).2 (bTo l k).1.length (k * 20000000) (by omega) (fun i hi => by
      rw [bTo_len] at hi
      obtain ⟨a, b, c, d, e⟩ := h3 i hi
      omega)
    exact this
theorem bInv (l : List S37) (hl : l.length ≤ 30) (hv : AllValid l) (k : Nat) : k ≤ l.length → BInv l k := by
  induction k with
  | zero => exact fun _ => ⟨by simp [bTo], by simp [bTo], fun j hj => by omega⟩
  | succ k ih =>
    intro hk
    have h := ih (by omega)
    have hb := bBase_bd l k (by omega) hl hv h
    obtain ⟨h1, h2, h3⟩ := h
    have hvk := hv k (by omega)
    have hlen := bTo_len l k
    unfold BInv
    simp only [bTo, bStep]
    generalize bBase (bTo l k).1 (bTo l k).2 (rd_T37 l (k : Int)) (rd_T37 l ((k - 1 : Nat) : Int)) k = b at hb ⊢
    generalize hx : rd_T37 l (k : Int) = x at hvk ⊢
    obtain ⟨v1, v2, v0, v3, v4, v5, v6⟩ := hvk
    have w1 : wrap64 (b + x.f3) = b + x.f3 := by unfold wrap64; omega
    have w2 : wrap64 (b + x.f3 + x.f4) = b + x.f3 + x.f4 := by unfold wrap64; omega
    have hc : (bTo l k).2 ≤ bClick (bTo l k).2 x ∧ bClick (bTo l k).2 x ≤ k + 1 ∧ 0 ≤ bClick (bTo l k).2 x := by
      unfold bClick
      split
      · have : wrap64 ((bTo l k).2 + 1) = (bTo l k).2 + 1 := by unfold wrap64; omega
        omega
      · omega
    refine ⟨hc.2.2, by omega, fun j hj => ?_⟩
    by_cases hjk : j < k
    · rw [rd45_append_lt _ _ _ (by omega)]
      obtain ⟨a1, a2, a3, a4, a5⟩ := h3 j hjk
      exact ⟨by omega, a2, a3, a4, a5⟩
    · have e : j = (bTo l k).1.length := by omega
      have e2 : (j : Int) = (k : Int) := by omega
      rw [e, rd45_append_eq]
      rw [hlen, hx]
      simp only [w1, w2]
      omega
/-- the base of the effect ahead -/
def baseOf (l : List S37) (k : Nat) : Int := if k = 0 then 0 else wrap64 ((rd_T45 (bTo l k).1 ((k - 1 : Nat) : Int)).f1 - (rd_T37 l ((k - 1 : Nat) : Int)).f3)
theorem baseOf_succ (l : List S37) (k : Nat) (hk : k < l.length) (hl : l.length ≤ 30) (hv : AllValid l) : baseOf l (k + 1) = bBase (bTo l k).1 (bTo l k).2 (rd_T37 l (k : Int)) (rd_T37 l ((k - 1 : Nat) : Int)) k := by
  have hb := bBase_bd l k hk hl hv (bInv l hl hv k (by omega))
  have hlen := bTo_len l k
  unfold baseOf
  rw [if_neg (by omega)]
  simp only [bTo, bStep, Nat.add_sub_cancel]
  have hx := hv k hk
  generalize bBase (bTo l k).1 (bTo l k).2 (rd_T37 l (k : Int)) (rd_T37 l ((k - 1 : Nat) : Int)) k = b at hb ⊢
  rw [show ((k : Nat) : Int) = (((bTo l k).1.length : Nat) : Int) by rw [hlen], rd45_append_eq, hlen]
  obtain ⟨v1, v2, v0, v3, v4, v5, v6⟩ := hx
  show wrap64 (wrap64 (b + (rd_T37 l (k : Int)).f3) - (rd_T37 l (k : Int)).f3) = b
  unfold wrap64
  omega
theorem maxTo_succ (l : List S37) (k : Nat) (hk : k < l.length) (hl : l.length ≤ 30) (hv : AllValid l) (y : S45) (hy : (bTo l (k + 1)).1 = (bTo l k).1 ++ [y]) (hyc : y.f0 = (bTo l (k + 1)).2) :
    maxTo (bTo l (k + 1)).1 (bTo l (k + 1)).2 (k + 1) = mx (if (rd_T37 l (k : Int)).f2 = 0 then 0 else maxTo (bTo l k).1 (bTo l k).2 k) y.f2 := by
  have hlen := bTo_len l k
  have hb := bInv l hl hv k (by omega)
  obtain ⟨h1, h2, h3⟩ := hb
  have e : maxTo (bTo l (k + 1)).1 (bTo l (k + 1)).2 (k + 1) = mx (maxTo ((bTo l k).1 ++ [y]) (bTo l (k + 1)).2 k) y.f2 := by
    rw [hy]
    simp only [maxTo]
    have e3 := rd45_append_eq (bTo l k).1 y
    rw [hlen] at e3
    rw [e3, if_pos hyc]
  rw [e, maxTo_append _ _ _ _ (by omega)]
  have hc : (bTo l (k + 1)).2 = bClick (bTo l k).2 (rd_T37 l (k : Int)) := rfl
  rw [hc]
  unfold bClick
  split
  · rw [maxTo_none]
    intro i hi
    have := (h3 i hi).1
    have hw : wrap64 ((bTo l k).2 + 1) = (bTo l k).2 + 1 := by unfold wrap64; omega
    omega
  · rfl
theorem times_go (l : List S37) (hl : l.length ≤ 30) (hv : AllValid l) (d : Nat) : ∀ k f : Nat, k ≤ l.length → l.length - k = d → d < f →
    timeline_times.l0 f (bTo l k).1 (bTo l k).2 (baseOf l k) (maxTo (bTo l k).1 (bTo l k).2 k) l (l.length : Int) (k : Int) = some (bTo l l.length).1 := by
  induction d with
  | zero =>
    intro k f hk hd hf
    obtain ⟨f, rfl⟩ : ∃ m, f = m + 1 := ⟨f - 1, by omega⟩
    obtain rfl : k = l.length := by omega
    simp only [timeline_times.l0]
    rw [if_neg (by omega)]
  | succ d ih =>
    intro k f hk hd hf
    obtain ⟨f, rfl⟩ : ∃ m, f = m + 1 := ⟨f - 1, by omega⟩
    have hk' : k < l.length := by omega
    have hlen := bTo_len l k
    have hih := ih (k + 1) f (by omega) (by omega) (by omega)
    rw [baseOf_succ l k hk' hl hv] at hih
    have hstep : (bTo l (k + 1)).1 = (bTo l k).1 ++ [⟨bClick (bTo l k).2 (rd_T37 l (k : Int)), wrap64 (bBase (bTo l k).1 (bTo l k).2 (rd_T37 l (k : Int)) (rd_T37 l ((k - 1 : Nat) : Int)) k + (rd_T37 l (k : Int)).f3), wrap64 (wrap64 (bBase (bTo l k).1 (bTo l k).2 (rd_T37 l (k : Int)) (rd_T37 l ((k - 1 : Nat) : Int)) k + (rd_T37 l (k : Int)).f3) + (rd_T37 l (k : Int)).f4)⟩] := rfl
    have hc : (bTo l (k + 1)).2 = bClick (bTo l k).2 (rd_T37 l (k : Int)) := rfl
    rw [maxTo_succ l k hk' hl hv _ hstep hc.symm, hstep, hc] at hih
    simp only [timeline_times.l0]
    rw [if_pos (by omega), if_pos (by omega), if_pos (by omega), wrap_succ k l.length hk' (by omega)]
    have hlim : (bTo l k).1.length < 5864062014805 := by omega
    by_cases s0 : (rd_T37 l (k : Int)).f2 = 0
    · rw [if_pos s0, if_pos hlim, ← hih]
      simp only [bBase, bClick, s0, if_true, Int.zero_add]
    · rw [if_neg s0]
      have hcl : bClick (bTo l k).2 (rd_T37 l (k : Int)) = (bTo l k).2 := if_neg s0
      rw [hcl, if_neg s0] at hih
      by_cases s2 : (rd_T37 l (k : Int)).f2 = 2
      · rw [if_pos s2, if_pos hlim, ← hih]
        have e : bBase (bTo l k).1 (bTo l k).2 (rd_T37 l (k : Int)) (rd_T37 l ((k - 1 : Nat) : Int)) k = maxTo (bTo l k).1 (bTo l k).2 k := by
          unfold bBase
          rw [if_neg s0]
          by_cases k0 : k = 0
          · rw [if_pos k0, k0]; rfl
          · rw [if_neg k0, if_neg (by omega), hlen]
        rw [e]
      · rw [if_neg s2, if_pos hlim, ← hih]
        have hv2 := (hv k hk').2.1
        have e : bBase (bTo l k).1 (bTo l k).2 (rd_T37 l (k : Int)) (rd_T37 l ((k - 1 : Nat) : Int)) k = baseOf l k := by
          unfold bBase baseOf
          rw [if_neg s0]
          by_cases k0 : k = 0
          · rw [if_pos k0, if_pos k0]
          · rw [if_neg k0, if_neg k0, if_pos (by omega)]
        rw [e]
theorem times_some (l : List S37) (hl : l.length ≤ 30) (hv : AllValid l) : timeline_times.f 31 l = some (bTo l l.length).1 :=
  times_go l hl hv l.length 0 31 (by omega) (by omega) (by omega)
/-- how much of an effect has happened -/
def prog (t : S45) (click at_ : Int) : Int :=
  if t.f0 < click ∨ (t.f0 = click ∧ t.f2 ≤ at_) then 1000 else if click < t.f0 ∨ at_ ≤ t.f1 then 0 else Int.tdiv (1000 * (at_ - t.f1)) (t.f2 - t.f1)
def TOk (t : S45) : Prop := 0 ≤ t.f1 ∧ t.f1 ≤ t.f2 ∧ t.f2 ≤ 600000000
theorem prog_bd (t : S45) (click at_ : Int) (ht : TOk t) : 0 ≤ prog t click at_ ∧ prog t click at_ ≤ 1000 := by
  obtain ⟨t1, t2, t3⟩ := ht
  unfold prog
  split
  · omega
  split
  · omega
  rename_i h1 h2
  have h3 : t.f1 < at_ := by omega
  have h4 : at_ < t.f2 := by omega
  have hpos : 0 < t.f2 - t.f1 := by omega
  rw [Int.tdiv_eq_ediv_of_nonneg (by omega)]
  constructor
  · exact Int.ediv_nonneg (by omega) (by omega)
  · have : 1000 * (at_ - t.f1) / (t.f2 - t.f1) < 1001 := Int.ediv_lt_of_lt_mul hpos (by omega)
    omega
theorem div_spell (t : S45) (at_ : Int) (ht : TOk t) (h1 : t.f1 < at_) (h2 : at_ < t.f2) : wrap64 (Int.tdiv (wrap64 (1000 * (wrap64 (at_ - t.f1)))) (wrap64 (t.f2 - t.f1))) = Int.tdiv (1000 * (at_ - t.f1)) (t.f2 - t.f1) := by
  obtain ⟨t1, t2, t3⟩ := ht
  have e1 : wrap64 (at_ - t.f1) = at_ - t.f1 := by unfold wrap64; omega
  have e2 : wrap64 (t.f2 - t.f1) = t.f2 - t.f1 := by unfold wrap64; omega
  have e3 : wrap64 (1000 * (at_ - t.f1)) = 1000 * (at_ - t.f1) := by unfold wrap64; omega
  rw [e1, e2, e3]
  have hpos : 0 < t.f2 - t.f1 := by omega
  have h0 : 0 ≤ Int.tdiv (1000 * (at_ - t.f1)) (t.f2 - t.f1) := by
    rw [Int.tdiv_eq_ediv_of_nonneg (by omega)]; exact Int.ediv_nonneg (by omega) (by omega)
  have h3 : Int.tdiv (1000 * (at_ - t.f1)) (t.f2 - t.f1) < 1001 := by
    rw [Int.tdiv_eq_ediv_of_nonneg (by omega)]; exact Int.ediv_lt_of_lt_mul hpos (by omega)
  unfold wrap64
  omega
theorem progress_some (t : S45) (click at_ : Int) (ht : TOk t) : timeline_progress.f 1 t.f0 t.f1 t.f2 click at_ = some (prog t click at_) := by
  unfold timeline_progress.f prog
  simp only [timeline_progress.j0]
  by_cases h1 : t.f0 < click
  · simp [h1]
  · by_cases h2 : t.f0 = click
    · by_cases h3 : t.f2 ≤ at_
      · simp [h1, h2, h3]
      · by_cases h4 : at_ ≤ t.f1
        · simp [h1, h2, h3, h4]
        · have hd := div_spell t at_ ht (by omega) (by omega)
          have hz : ¬ wrap64 (t.f2 - t.f1) = 0 := by obtain ⟨t1, t2, t3⟩ := ht; unfold wrap64; omega
          simp only [h2, h3, h4, hz, if_false, Int.lt_irrefl, false_or, true_and, ge_iff_le, decide_false, Bool.false_eq_true, if_true, hd, gt_iff_lt]
    · have h5 : click < t.f0 := by omega
      simp [h1, h2, h5]
end Go.Proofs.Ytmjdeejccmcpnaa.Q
