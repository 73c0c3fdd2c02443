/- The plain law, part 3: what State gathers item by item is what stateOf reckons for each item. -/
import Derived.Test.YtmjdeejccmcpnaaP1
namespace Go.Proofs.Ytmjdeejccmcpnaa.Q
open Go.RowKit Go.Proofs.YtmjdeejccmcpnaaW.PrintWords Go.Proofs.YtmjdeejccmcpnaaW.PrintLast Go.Proofs.YtmjdeejccmcpnaaW.PrintMore
set_option linter.unusedVariables false
set_option linter.unusedSimpArgs false
/-- what stateOf has of an item behind k effects: seen (below 0: not told yet), and where -/
def ofStep (o : Int × Int × Int) (x : S37) (p : Int) : Int × Int × Int :=
  let s := if x.f1 ≠ 2 ∧ o.1 < 0 then wrap64 (1000 * x.f1) else o.1
  if p = 0 then (s, o.2.1, o.2.2)
  else if x.f1 = 2 then (s, wrap64 (o.2.1 + part_ x.f5 p), wrap64 (o.2.2 + part_ x.f6 p))
  else if x.f1 = 0 then (mx s p, o.2.1, o.2.2) else (mn s (wrap64 (1000 - p)), o.2.1, o.2.2)
def ofTo (l : List S37) (pr : Nat → Int) (it : Int) : Nat → Int × Int × Int
  | 0 => (-1, 0, 0)
  | k + 1 => if (rd_T37 l (k : Int)).f0 = it then ofStep (ofTo l pr it k) (rd_T37 l (k : Int)) (pr k) else ofTo l pr it k
def fin (it : Int) (o : Int × Int × Int) : Int × Int × Int × Int := if o.1 < 0 then (it, 1000, o.2.1, o.2.2) else (it, o.1, o.2.1, o.2.2)
theorem p_of (t : S45) (click at_ : Int) (ht : TOk t) : (if t.f0 < click then 1000 else if t.f0 = click then (if t.f2 ≤ at_ then 1000 else if t.f1 < at_ then Int.tdiv (1000 * (at_ - t.f1)) (t.f2 - t.f1) else 0) else 0) = prog t click at_ := by
  unfold prog
  by_cases h1 : t.f0 < click
  · simp [h1]
  · by_cases h2 : t.f0 = click
    · by_cases h3 : t.f2 ≤ at_
      · simp [h1, h2, h3]
      · by_cases h4 : at_ ≤ t.f1
        · simp [h1, h2, h3, h4, show ¬ (t.f1 < at_) from by omega]
        · simp [h1, h2, h3, h4, show (t.f1 < at_) from by omega]
    · simp [h1, h2, show click < t.f0 from by omega]
theorem of_one (l : List S37) (ts : List S45) (pr : Nat → Int) (it click at_ : Int) (k f : Nat) (hk : k < l.length) (hl : l.length ≤ 30) (hts : ts.length = l.length) (ht : TOk (rd_T45 ts (k : Int))) (hp : pr k = prog (rd_T45 ts (k : Int)) click at_) (hx : (rd_T37 l (k : Int)).f0 = it) (s X Y : Int) :
    chancerylaw3_stateOf.l0 (f + 5) ts it click at_ l (l.length : Int) (k : Int) it s X Y =
      chancerylaw3_stateOf.l0 f ts it click at_ l (l.length : Int) ((k + 1 : Nat) : Int) it (ofStep (s, X, Y) (rd_T37 l (k : Int)) (pr k)).1 (ofStep (s, X, Y) (rd_T37 l (k : Int)) (pr k)).2.1 (ofStep (s, X, Y) (rd_T37 l (k : Int)) (pr k)).2.2 := by
  have h0 : (k : Int) < (l.length : Int) := by omega
  have h1 : 0 ≤ (k : Int) := by omega
  have h2 : (k : Int) < (ts.length : Int) := by omega
  have hpo := p_of _ click at_ ht
  simp only [chancerylaw3_stateOf.l0, chancerylaw3_stateOf.j1, chancerylaw3_stateOf.j2, chancerylaw3_stateOf.j3, chancerylaw3_stateOf.j4, if_pos h0, if_pos h1, if_pos h2, if_pos hx, wrap_succ k _ hk (by omega : l.length ≤ 9223372036854775807)]
  rw [hp]
  have hz : ¬ wrap64 ((rd_T45 ts (k : Int)).f2 - (rd_T45 ts (k : Int)).f1) = 0 ∨ ¬ ((rd_T45 ts (k : Int)).f1 < at_ ∧ at_ < (rd_T45 ts (k : Int)).f2) := by
    obtain ⟨t1, t2, t3⟩ := ht
    by_cases h : (rd_T45 ts (k : Int)).f1 < at_ ∧ at_ < (rd_T45 ts (k : Int)).f2
    · left; unfold wrap64; omega
    · right; exact h
  have hd := fun h1 h2 => div_spell (rd_T45 ts (k : Int)) at_ ht h1 h2
  generalize rd_T45 ts (k : Int) = t at *
  generalize rd_T37 l (k : Int) = x at *
  unfold ofStep
  generalize hR : chancerylaw3_stateOf.l0 f ts it click at_ l (l.length : Int) ((k + 1 : Nat) : Int) it = R
  rw [← hpo]
  have hx1 : ∀ A B : Option (Int × Int × Int × Int), (if x.f1 = 2 then A else if decide (s < 0) = true then B else A) = if x.f1 ≠ 2 ∧ s < 0 then B else A := by
    intro A B
    by_cases a : x.f1 = 2
    · simp [a]
    · by_cases b : s < 0
      · simp [a, b]
      · simp [a, b]
  by_cases k1 : t.f0 < click
  · by_cases a : x.f1 = 2
    · simp [k1, a, part_]
    · by_cases b : s < 0 <;> by_cases c : x.f1 = 0 <;> simp [k1, a, b, c]
  · by_cases k2 : t.f0 = click
    · by_cases k3 : t.f2 ≤ at_
      · by_cases a : x.f1 = 2
        · simp [k1, k2, k3, a, part_]
        · by_cases b : s < 0 <;> by_cases c : x.f1 = 0 <;> simp [k1, k2, k3, a, b, c]
      · by_cases k4 : t.f1 < at_
        · have hd2 := hd k4 (by omega)
          have hz2 : ¬ wrap64 (t.f2 - t.f1) = 0 := by rcases hz with h | h; exact h; exact absurd ⟨k4, by omega⟩ h
          subst k2
          simp only [hd2, k3, k4, hz2, Int.lt_irrefl, if_true, if_false, ge_iff_le, gt_iff_lt, decide_false, Bool.false_eq_true]
          generalize Int.tdiv (1000 * (at_ - t.f1)) (t.f2 - t.f1) = p
          by_cases a : x.f1 = 2
          · by_cases q : p = 0 <;> simp [a, q, part_]
          · by_cases b : s < 0 <;> by_cases c : x.f1 = 0 <;> by_cases q : p = 0 <;> simp [a, b, c, q]
        · by_cases a : x.f1 = 2
          · simp [k1, k2, k3, k4, a]
          · by_cases b : s < 0 <;> by_cases c : x.f1 = 0 <;> simp [k1, k2, k3, k4, a, b, c]
    · by_cases a : x.f1 = 2
      · simp [k1, k2, a]
      · by_cases b : s < 0 <;> by_cases c : x.f1 = 0 <;> simp [k1, k2, a, b, c]
theorem of_other (l : List S37) (ts : List S45) (it click at_ : Int) (k f : Nat) (hk : k < l.length) (hl : l.length ≤ 30) (hx : (rd_T37 l (k : Int)).f0 ≠ it) (s X Y : Int) :
    chancerylaw3_stateOf.l0 (f + 1) ts it click at_ l (l.length : Int) (k : Int) it s X Y = chancerylaw3_stateOf.l0 f ts it click at_ l (l.length : Int) ((k + 1 : Nat) : Int) it s X Y := by
  have h0 : (k : Int) < (l.length : Int) := by omega
  have h1 : 0 ≤ (k : Int) := by omega
  simp only [chancerylaw3_stateOf.l0, if_pos h0, if_pos h1, if_neg hx, wrap_succ k _ hk (by omega : l.length ≤ 9223372036854775807)]
theorem of_go (l : List S37) (ts : List S45) (pr : Nat → Int) (it click at_ : Int) (hl : l.length ≤ 30) (hts : ts.length = l.length)
    (ht : ∀ k : Nat, k < l.length → TOk (rd_T45 ts (k : Int))) (hp : ∀ k : Nat, k < l.length → pr k = prog (rd_T45 ts (k : Int)) click at_) (d : Nat) : ∀ k f : Nat, k ≤ l.length → l.length - k = d → 5 * d < f →
    chancerylaw3_stateOf.l0 f ts it click at_ l (l.length : Int) (k : Int) it (ofTo l pr it k).1 (ofTo l pr it k).2.1 (ofTo l pr it k).2.2 = some (fin it (ofTo l pr it l.length)) := by
  induction d with
  | zero =>
    intro k f hk hd hf
    obtain ⟨f, rfl⟩ : ∃ m, f = m + 1 := ⟨f - 1, by omega⟩
    obtain rfl : k = l.length := by omega
    simp only [chancerylaw3_stateOf.l0]
    rw [if_neg (by omega)]
    unfold fin
    split <;> rfl
  | succ d ih =>
    intro k f hk hd hf
    have hk' : k < l.length := by omega
    by_cases hx : (rd_T37 l (k : Int)).f0 = it
    · obtain ⟨f, rfl⟩ : ∃ m, f = m + 5 := ⟨f - 5, by omega⟩
      rw [of_one l ts pr it click at_ k f hk' hl hts (ht k hk') (hp k hk') hx]
      have h := ih (k + 1) f (by omega) (by omega) (by omega)
      simp only [ofTo, if_pos hx] at h
      exact h
    · obtain ⟨f, rfl⟩ : ∃ m, f = m + 1 := ⟨f - 1, by omega⟩
      rw [of_other l ts it click at_ k f hk' hl hx]
      have h := ih (k + 1) f (by omega) (by omega) (by omega)
      simp only [ofTo, if_neg hx] at h
      exact h
theorem of_some (l : List S37) (ts : List S45) (pr : Nat → Int) (it click at_ : Int) (hl : l.length ≤ 30) (hts : ts.length = l.length)
    (ht : ∀ k : Nat, k < l.length → TOk (rd_T45 ts (k : Int))) (hp : ∀ k : Nat, k < l.length → pr k = prog (rd_T45 ts (k : Int)) click at_) :
    chancerylaw3_stateOf.f 151 l ts it click at_ = some (fin it (ofTo l pr it l.length)) :=
  of_go l ts pr it click at_ hl hts ht hp l.length 0 151 (by omega) (by omega) (by omega)

/-- the bounds of what is gathered -/
def OBd (k : Nat) (o : Int × Int × Int) : Prop := (o.1 = -1 ∨ (0 ≤ o.1 ∧ o.1 ≤ 1000)) ∧ (-(k * 1048576) ≤ o.2.1 ∧ o.2.1 ≤ k * 1048576) ∧ (-(k * 1048576) ≤ o.2.2 ∧ o.2.2 ≤ k * 1048576)
theorem part_bd (n p : Int) (hn : -1048576 ≤ n ∧ n ≤ 1048576) (hp : 0 ≤ p ∧ p ≤ 1000) : -1048576 ≤ part_ n p ∧ part_ n p ≤ 1048576 := by
  have h1 : n * p ≤ 1048576 * 1000 := by
    rcases Int.le_total 0 n with h | h
    · exact Int.mul_le_mul hn.2 hp.2 hp.1 (by omega)
    · have : n * p ≤ 0 := Int.mul_nonpos_of_nonpos_of_nonneg h hp.1
      omega
  have h2 : -(1048576 * 1000) ≤ n * p := by
    rcases Int.le_total 0 n with h | h
    · have : 0 ≤ n * p := Int.mul_nonneg h hp.1
      omega
    · have h3 : (-n) * p ≤ 1048576 * 1000 := Int.mul_le_mul (by omega) hp.2 hp.1 (by omega)
      rw [Int.neg_mul] at h3
      omega
  unfold part_
  have e1 : wrap64 (n * p) = n * p := by unfold wrap64; omega
  rw [e1]
  have h3 : -1048576 ≤ Int.tdiv (n * p) 1000 ∧ Int.tdiv (n * p) 1000 ≤ 1048576 := by
    generalize n * p = q at h1 h2
    rcases Int.le_total 0 q with h | h
    · rw [Int.tdiv_eq_ediv_of_nonneg h]; omega
    · have e : q = -(-q) := by omega
      rw [e, Int.neg_tdiv, Int.tdiv_eq_ediv_of_nonneg (by omega)]
      omega
  unfold wrap64
  omega
theorem part_zero (n : Int) : part_ n 0 = 0 := by unfold part_; simp [wrap64]
theorem ofStep_bd (k : Nat) (hk : k ≤ 30) (o : Int × Int × Int) (x : S37) (p : Int) (h : OBd k o) (hx : Valid x) (hp : 0 ≤ p ∧ p ≤ 1000) : OBd (k + 1) (ofStep o x p) := by
  obtain ⟨h1, h2, h3⟩ := h
  obtain ⟨v1, v2, v0, v3, v4, v5, v6⟩ := hx
  have q5 := part_bd x.f5 p v5 hp
  have q6 := part_bd x.f6 p v6 hp
  obtain ⟨s, hs⟩ : ∃ s, (if x.f1 ≠ 2 ∧ o.1 < 0 then wrap64 (1000 * x.f1) else o.1) = s := ⟨_, rfl⟩
  have hw : x.f1 ≠ 2 → wrap64 (1000 * x.f1) = 1000 * x.f1 := by
    intro hne
    have : x.f1 = 0 ∨ x.f1 = 1 := by omega
    rcases this with e | e <;> rw [e] <;> simp [wrap64]
  have hs1 : s = -1 ∨ (0 ≤ s ∧ s ≤ 1000) := by
    rw [← hs]
    split
    · rename_i hh
      rw [hw hh.1]; omega
    · exact h1
  have hs2 : x.f1 ≠ 2 → 0 ≤ s ∧ s ≤ 1000 := by
    intro hne
    rw [← hs]
    by_cases ho : o.1 < 0
    · rw [if_pos ⟨hne, ho⟩, hw hne]; omega
    · rw [if_neg (fun h => ho h.2)]; omega
  unfold ofStep
  simp only [hs]
  split
  · exact ⟨hs1, ⟨by show _ ≤ o.2.1; omega, by show o.2.1 ≤ _; omega⟩, ⟨by show _ ≤ o.2.2; omega, by show o.2.2 ≤ _; omega⟩⟩
  split
  · have e1 : wrap64 (o.2.1 + part_ x.f5 p) = o.2.1 + part_ x.f5 p := by unfold wrap64; omega
    have e2 : wrap64 (o.2.2 + part_ x.f6 p) = o.2.2 + part_ x.f6 p := by unfold wrap64; omega
    refine ⟨hs1, ?_, ?_⟩
    · show _ ≤ wrap64 (o.2.1 + part_ x.f5 p) ∧ wrap64 (o.2.1 + part_ x.f5 p) ≤ _
      rw [e1]; omega
    · show _ ≤ wrap64 (o.2.2 + part_ x.f6 p) ∧ wrap64 (o.2.2 + part_ x.f6 p) ≤ _
      rw [e2]; omega
  rename_i hne
  have hs3 := hs2 hne
  split
  · exact ⟨.inr (by show 0 ≤ mx s p ∧ mx s p ≤ 1000; unfold mx; split <;> omega), ⟨by show _ ≤ o.2.1; omega, by show o.2.1 ≤ _; omega⟩, ⟨by show _ ≤ o.2.2; omega, by show o.2.2 ≤ _; omega⟩⟩
  · have e1 : wrap64 (1000 - p) = 1000 - p := by unfold wrap64; omega
    exact ⟨.inr (by show 0 ≤ mn s (wrap64 (1000 - p)) ∧ mn s (wrap64 (1000 - p)) ≤ 1000; rw [e1]; unfold mn; split <;> omega), ⟨by show _ ≤ o.2.1; omega, by show o.2.1 ≤ _; omega⟩, ⟨by show _ ≤ o.2.2; omega, by show o.2.2 ≤ _; omega⟩⟩
theorem ofTo_bd (l : List S37) (pr : Nat → Int) (it : Int) (hl : l.length ≤ 30) (hv : AllValid l) (hp : ∀ k : Nat, k < l.length → 0 ≤ pr k ∧ pr k ≤ 1000) (k : Nat) : k ≤ l.length → OBd k (ofTo l pr it k) := by
  induction k with
  | zero => exact fun _ => ⟨.inl rfl, by simp [ofTo], by simp [ofTo]⟩
  | succ k ih =>
    intro hk
    have h := ih (by omega)
    simp only [ofTo]
    split
    · exact ofStep_bd k (by omega) _ _ _ h (hv k (by omega)) (hp k (by omega))
    · obtain ⟨h1, h2, h3⟩ := h
      exact ⟨h1, by omega, by omega⟩
theorem ofTo_none (l : List S37) (pr : Nat → Int) (it : Int) (k : Nat) (h : ∀ i : Nat, i < k → (rd_T37 l (i : Int)).f0 ≠ it) : ofTo l pr it k = (-1, 0, 0) := by
  induction k with
  | zero => rfl
  | succ k ih =>
    simp only [ofTo]
    rw [if_neg (h k (by omega)), ih (fun i hi => h i (by omega))]
end Go.Proofs.Ytmjdeejccmcpnaa.Q
