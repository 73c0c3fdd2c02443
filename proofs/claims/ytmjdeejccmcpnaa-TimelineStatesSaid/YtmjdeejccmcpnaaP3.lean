/- The plain law, part 4: the states that State gathers, item by item; and the law. -/
import Derived.Test.YtmjdeejccmcpnaaP2
namespace Go.Proofs.Ytmjdeejccmcpnaa.Q
open Go.RowKit Go.Proofs.YtmjdeejccmcpnaaW.PrintWords Go.Proofs.YtmjdeejccmcpnaaW.PrintLast Go.Proofs.YtmjdeejccmcpnaaW.PrintMore
set_option linter.unusedVariables false
set_option linter.unusedSimpArgs false
def get (o : List S33) (j : Nat) : S33 := o.getD j z33
theorem get_set_eq (o : List S33) (k : Nat) (y : S33) (h : k < o.length) : get (o.set k y) k = y := by
  unfold get; rw [List.getD_eq_getElem?_getD, List.getElem?_set_self h]; rfl
theorem get_set_ne (o : List S33) (k j : Nat) (y : S33) (h : j ≠ k) : get (o.set k y) j = get o j := by
  unfold get; rw [List.getD_eq_getElem?_getD, List.getD_eq_getElem?_getD, List.getElem?_set_ne (Ne.symm h)]
theorem get_app_lt (o : List S33) (y : S33) (j : Nat) (h : j < o.length) : get (o ++ [y]) j = get o j := by
  unfold get; rw [List.getD_eq_getElem?_getD, List.getD_eq_getElem?_getD, List.getElem?_append_left h]
theorem get_app_eq (o : List S33) (y : S33) : get (o ++ [y]) o.length = y := by
  unfold get; rw [List.getD_eq_getElem?_getD]; simp
theorem get_elem (o : List S33) (j : Nat) (h : j < o.length) : get o j = o[j] := by
  unfold get; rw [List.getD_eq_getElem?_getD, List.getElem?_eq_getElem h]; rfl
def kn (n : List Bool) (j : Nat) : Bool := n.getD j false
theorem kn_set_eq (o : List Bool) (k : Nat) (y : Bool) (h : k < o.length) : kn (o.set k y) k = y := by
  unfold kn; rw [List.getD_eq_getElem?_getD, List.getElem?_set_self h]; rfl
theorem kn_set_ne (o : List Bool) (k j : Nat) (y : Bool) (h : j ≠ k) : kn (o.set k y) j = kn o j := by
  unfold kn; rw [List.getD_eq_getElem?_getD, List.getD_eq_getElem?_getD, List.getElem?_set_ne (Ne.symm h)]
theorem kn_app_lt (o : List Bool) (y : Bool) (j : Nat) (h : j < o.length) : kn (o ++ [y]) j = kn o j := by
  unfold kn; rw [List.getD_eq_getElem?_getD, List.getD_eq_getElem?_getD, List.getElem?_append_left h]
theorem kn_app_eq (o : List Bool) (y : Bool) : kn (o ++ [y]) o.length = y := by
  unfold kn; rw [List.getD_eq_getElem?_getD]; simp
/-- an item's state, as State holds it, and as stateOf reckons it -/
def Agree (c : S33) (b : Bool) (o : Int × Int × Int) : Prop := b = decide (0 ≤ o.1) ∧ c.f1 = (if o.1 < 0 then 1000 else o.1) ∧ c.f2 = o.2.1 ∧ c.f3 = o.2.2
theorem agree_step (k : Nat) (hk : k ≤ 30) (c : S33) (b : Bool) (o : Int × Int × Int) (x : S37) (p : Int) (h : Agree c b o) (hb : OBd k o) (hx : Valid x) (hp : 0 ≤ p ∧ p ≤ 1000) :
    Agree (if x.f1 = 2 then ⟨c.f0, c.f1, wrap64 (c.f2 + part_ x.f5 p), wrap64 (c.f3 + part_ x.f6 p)⟩ else ⟨c.f0, seen1 x p (seen0 b x c), c.f2, c.f3⟩) (if x.f1 = 2 then b else true) (ofStep o x p) := by
  obtain ⟨h1, h2, h3, h4⟩ := h
  obtain ⟨b1, b2, b3⟩ := hb
  have hx' := hx
  obtain ⟨v1, v2, v0, v3, v4, v5, v6⟩ := hx
  obtain ⟨s, X, Y⟩ := o
  simp only at h1 h2 h3 h4 b1 b2 b3
  subst h1
  by_cases k2 : x.f1 = 2
  · rw [if_pos k2, if_pos k2]
    by_cases p0 : p = 0
    · subst p0
      have e : ofStep (s, X, Y) x 0 = (s, X, Y) := by simp [ofStep, k2]
      rw [e, part_zero, part_zero, Int.add_zero, Int.add_zero]
      have e2 : wrap64 c.f2 = c.f2 := by rw [h3]; unfold wrap64; omega
      have e3 : wrap64 c.f3 = c.f3 := by rw [h4]; unfold wrap64; omega
      exact ⟨rfl, h2, by show wrap64 c.f2 = X; rw [e2, h3], by show wrap64 c.f3 = Y; rw [e3, h4]⟩
    · have e : ofStep (s, X, Y) x p = (s, wrap64 (X + part_ x.f5 p), wrap64 (Y + part_ x.f6 p)) := by simp [ofStep, k2, p0]
      rw [e]
      exact ⟨rfl, h2, by show wrap64 (c.f2 + _) = wrap64 (X + _); rw [h3], by show wrap64 (c.f3 + _) = wrap64 (Y + _); rw [h4]⟩
  · rw [if_neg k2, if_neg k2]
    have hw : wrap64 (1000 * x.f1) = 1000 * x.f1 := by
      have : x.f1 = 0 ∨ x.f1 = 1 := by omega
      rcases this with e | e <;> rw [e] <;> simp [wrap64]
    have hs0 : seen0 (decide (0 ≤ s)) x c = (if s < 0 then 1000 * x.f1 else s) := by
      unfold seen0
      by_cases hs : s < 0
      · have hd : decide (0 ≤ s) = false := decide_eq_false (by omega)
        rw [hd, if_pos hs]
        rw [if_pos hs] at h2
        by_cases k0 : x.f1 = 0
        · rw [if_pos ⟨rfl, k0⟩, k0]; rfl
        · have : x.f1 = 1 := by omega
          rw [if_neg (fun h => k0 h.2), h2, this]; rfl
      · have hd : decide (0 ≤ s) = true := decide_eq_true (by omega)
        rw [hd, if_neg (by simp), if_neg hs]
        rw [if_neg hs] at h2
        exact h2
    rw [hs0]
    obtain ⟨q, hq⟩ : ∃ q, (if s < 0 then 1000 * x.f1 else s) = q := ⟨_, rfl⟩
    have hq0 : 0 ≤ q ∧ q ≤ 1000 := by
      rw [← hq]
      split
      · omega
      · omega
    have hst : (if x.f1 ≠ 2 ∧ s < 0 then wrap64 (1000 * x.f1) else s) = q := by
      rw [← hq, hw]
      by_cases hs : s < 0
      · rw [if_pos ⟨k2, hs⟩, if_pos hs]
      · rw [if_neg (fun h => hs h.2), if_neg hs]
    rw [hq]
    by_cases p0 : p = 0
    · subst p0
      have e : ofStep (s, X, Y) x 0 = (q, X, Y) := by unfold ofStep; simp only [hst, if_true]
      rw [e]
      have e1 : seen1 x 0 q = q := by unfold seen1; simp
      rw [e1]
      exact ⟨by simp [hq0.1], by show q = if q < 0 then 1000 else q; rw [if_neg (by omega)], h3, h4⟩
    · have hpp : 0 < p := by omega
      by_cases k0 : x.f1 = 0
      · have e : ofStep (s, X, Y) x p = (mx q p, X, Y) := by unfold ofStep; simp only [hst]; rw [if_neg p0, if_neg k2, if_pos k0]
        rw [e]
        have e1 : seen1 x p q = mx q p := if_pos ⟨k0, hpp⟩
        rw [e1]
        have : 0 ≤ mx q p := by unfold mx; split <;> omega
        exact ⟨by simp [this], by show mx q p = if mx q p < 0 then 1000 else mx q p; rw [if_neg (by omega)], h3, h4⟩
      · have k1 : x.f1 = 1 := by omega
        have e : ofStep (s, X, Y) x p = (mn q (wrap64 (1000 - p)), X, Y) := by unfold ofStep; simp only [hst]; rw [if_neg p0, if_neg k2, if_neg k0]
        rw [e]
        have e1 : seen1 x p q = mn q (wrap64 (1000 - p)) := by unfold seen1; rw [if_neg (fun h => k0 h.1), if_pos ⟨k1, hpp⟩]
        rw [e1]
        have ew : wrap64 (1000 - p) = 1000 - p := by unfold wrap64; omega
        rw [ew]
        have : 0 ≤ mn q (1000 - p) := by unfold mn; split <;> omega
        exact ⟨by simp [this], by show mn q (1000 - p) = if mn q (1000 - p) < 0 then 1000 else mn q (1000 - p); rw [if_neg (by omega)], h3, h4⟩
/-- what holds behind k effects -/
structure SInv (l : List S37) (pr : Nat → Int) (k : Nat) (out : List S33) (known : List Bool) : Prop where
  len : known.length = out.length
  agree : ∀ j, j < out.length → Agree (get out j) (kn known j) (ofTo l pr (get out j).f0 k)
  ne : ∀ i j, i < j → j < out.length → (get out i).f0 ≠ (get out j).f0
  from_ : ∀ j, j < out.length → ∃ i : Nat, i < k ∧ (rd_T37 l (i : Int)).f0 = (get out j).f0
  into_ : ∀ i : Nat, i < k → ∃ j, j < out.length ∧ (get out j).f0 = (rd_T37 l (i : Int)).f0
theorem findI_hit (out : List S33) (it : Int) (h : findI out it < out.length) : (get out (findI out it)).f0 = it := by
  rw [get_elem _ _ h]
  have := List.findIdx_getElem (w := h)
  exact beq_iff_eq.1 this
theorem findI_miss (out : List S33) (it : Int) (h : ¬ findI out it < out.length) (j : Nat) (hj : j < out.length) : (get out j).f0 ≠ it := by
  have h2 : findI out it = out.length := by have := findI_le out it; omega
  have h3 := List.findIdx_eq_length.1 h2 out[j] (List.getElem_mem hj)
  rw [get_elem _ _ hj]
  simpa using h3
/-- a round at place j0: the item's number stays, its state turns as stateOf's does, no other turns -/
theorem round_at (l : List S37) (pr : Nat → Int) (k : Nat) (hk : k < l.length) (hl : l.length ≤ 30) (hv : AllValid l) (hp : ∀ k : Nat, k < l.length → 0 ≤ pr k ∧ pr k ≤ 1000)
    (out : List S33) (known : List Bool) (j0 : Nat) (hj0 : j0 < out.length) (hlen : known.length = out.length)
    (hagree : ∀ j, j < out.length → Agree (get out j) (kn known j) (ofTo l pr (get out j).f0 k))
    (hne : ∀ i j, i < j → j < out.length → (get out i).f0 ≠ (get out j).f0)
    (hfrom : ∀ j, j < out.length → ∃ i : Nat, i < k + 1 ∧ (rd_T37 l (i : Int)).f0 = (get out j).f0)
    (hinto : ∀ i : Nat, i < k → ∃ j, j < out.length ∧ (get out j).f0 = (rd_T37 l (i : Int)).f0)
    (hx : (get out j0).f0 = (rd_T37 l (k : Int)).f0) :
    SInv l pr (k + 1) (roundO out known (rd_T37 l (k : Int)) (pr k) j0) (roundK known (rd_T37 l (k : Int)) j0) := by
  have hvk := hv k hk
  have hbd := ofTo_bd l pr (get out j0).f0 hl hv hp k (by omega)
  have hst := agree_step k (by omega) _ _ _ _ (pr k) (hagree j0 hj0) hbd hvk (hp k hk)
  obtain ⟨y, hy⟩ : ∃ y : S33, (if (rd_T37 l (k : Int)).f1 = 2 then ⟨(get out j0).f0, (get out j0).f1, wrap64 ((get out j0).f2 + part_ (rd_T37 l (k : Int)).f5 (pr k)), wrap64 ((get out j0).f3 + part_ (rd_T37 l (k : Int)).f6 (pr k))⟩ else (⟨(get out j0).f0, seen1 (rd_T37 l (k : Int)) (pr k) (seen0 (kn known j0) (rd_T37 l (k : Int)) (get out j0)), (get out j0).f2, (get out j0).f3⟩ : S33)) = y := ⟨_, rfl⟩
  have hO : roundO out known (rd_T37 l (k : Int)) (pr k) j0 = out.set j0 y := by
    unfold roundO
    rw [← hy]
    split
    · rfl
    · rfl
  have hy0 : y.f0 = (get out j0).f0 := by rw [← hy]; split <;> rfl
  rw [hy] at hst
  have hKl : (roundK known (rd_T37 l (k : Int)) j0).length = known.length := by unfold roundK; split <;> simp
  have hK0 : kn (roundK known (rd_T37 l (k : Int)) j0) j0 = (if (rd_T37 l (k : Int)).f1 = 2 then kn known j0 else true) := by
    unfold roundK
    split
    · rfl
    · exact kn_set_eq _ _ _ (by omega)
  have hKj : ∀ j, j ≠ j0 → kn (roundK known (rd_T37 l (k : Int)) j0) j = kn known j := by
    intro j hj
    unfold roundK
    split
    · rfl
    · exact kn_set_ne _ _ _ _ hj
  rw [hO]
  have hf0 : ∀ j, j < out.length → (get (out.set j0 y) j).f0 = (get out j).f0 := by
    intro j hj
    by_cases e : j = j0
    · rw [e, get_set_eq _ _ _ hj0, hy0]
    · rw [get_set_ne _ _ _ _ e]
  have hL : (out.set j0 y).length = out.length := List.length_set
  refine ⟨by rw [hKl, hL, hlen], fun j hj => ?_, fun i j hij hj => ?_, fun j hj => ?_, fun i hi => ?_⟩
  · rw [hL] at hj
    rw [hf0 j hj]
    by_cases e : j = j0
    · rw [e, get_set_eq _ _ _ hj0, hK0]
      simp only [ofTo]
      rw [if_pos hx.symm]
      exact hst
    · rw [get_set_ne _ _ _ _ e, hKj j e]
      have hne2 : (rd_T37 l (k : Int)).f0 ≠ (get out j).f0 := by
        rw [← hx]
        rcases Nat.lt_or_gt_of_ne e with h | h
        · exact Ne.symm (hne j j0 h hj0)
        · exact hne j0 j h hj
      simp only [ofTo]
      rw [if_neg hne2]
      exact hagree j hj
  · rw [hL] at hj
    rw [hf0 i (by omega), hf0 j hj]
    exact hne i j hij hj
  · rw [hL] at hj
    rw [hf0 j hj]
    exact hfrom j hj
  · by_cases e : i = k
    · exact ⟨j0, by rw [hL]; exact hj0, by rw [hf0 j0 hj0, e, hx]⟩
    · obtain ⟨j, hj, h⟩ := hinto i (by omega)
      exact ⟨j, by rw [hL]; exact hj, by rw [hf0 j hj, h]⟩
theorem sInv (l : List S37) (pr : Nat → Int) (hl : l.length ≤ 30) (hv : AllValid l) (hp : ∀ k : Nat, k < l.length → 0 ≤ pr k ∧ pr k ≤ 1000) (k : Nat) : k ≤ l.length → SInv l pr k (stTo l pr k).1 (stTo l pr k).2 := by
  induction k with
  | zero => exact fun _ => ⟨rfl, fun j hj => by simp [stTo] at hj, fun i j _ hj => by simp [stTo] at hj, fun j hj => by simp [stTo] at hj, fun i hi => by omega⟩
  | succ k ih =>
    intro hk
    have h := ih (by omega)
    simp only [stTo]
    generalize hst : stTo l pr k = st at h
    obtain ⟨out, known⟩ := st
    obtain ⟨h1, h2, h3, h4, h5⟩ := h
    simp only at h1 h2 h3 h4 h5
    unfold stStep
    simp only
    by_cases hf : findI out (rd_T37 l (k : Int)).f0 < out.length
    · rw [if_pos hf]
      exact round_at l pr k (by omega) hl hv hp out known _ hf h1 h2 h3 (fun j hj => by obtain ⟨i, hi, e⟩ := h4 j hj; exact ⟨i, by omega, e⟩) h5 (findI_hit out _ hf)
    · rw [if_neg hf]
      have hmiss := findI_miss out _ hf
      have hL : (out ++ [(⟨(rd_T37 l (k : Int)).f0, 1000, 0, 0⟩ : S33)]).length = out.length + 1 := by simp
      refine round_at l pr k (by omega) hl hv hp _ _ _ (by rw [hL]; omega) (by simp [h1]) (fun j hj => ?_) (fun i j hij hj => ?_) (fun j hj => ?_) (fun i hi => ?_) (by rw [get_app_eq])
      · by_cases e : j < out.length
        · rw [get_app_lt _ _ _ e, kn_app_lt _ _ _ (by omega)]
          exact h2 j e
        · obtain rfl : j = out.length := by omega
          rw [get_app_eq, ← h1, kn_app_eq]
          have : ofTo l pr (rd_T37 l (k : Int)).f0 k = (-1, 0, 0) := by
            refine ofTo_none l pr _ k (fun i hi he => ?_)
            obtain ⟨j, hj, e2⟩ := h5 i hi
            exact hmiss j hj (by rw [e2, he])
          rw [this]
          exact ⟨by decide, by simp, rfl, rfl⟩
      · by_cases e : j < out.length
        · rw [get_app_lt _ _ _ e, get_app_lt _ _ _ (by omega)]
          exact h3 i j hij e
        · obtain rfl : j = out.length := by omega
          rw [get_app_eq, get_app_lt _ _ _ (by omega)]
          exact hmiss i (by omega)
      · by_cases e : j < out.length
        · rw [get_app_lt _ _ _ e]
          obtain ⟨i, hi, e2⟩ := h4 j e
          exact ⟨i, by omega, e2⟩
        · obtain rfl : j = out.length := by omega
          rw [get_app_eq]
          exact ⟨k, by omega, rfl⟩
      · obtain ⟨j, hj, e⟩ := h5 i hi
        exact ⟨j, by omega, by rw [get_app_lt _ _ _ hj, e]⟩
end Go.Proofs.Ytmjdeejccmcpnaa.Q
