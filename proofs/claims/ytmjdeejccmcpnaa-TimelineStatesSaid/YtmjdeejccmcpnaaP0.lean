/- The plain law, part 1: the two checks answer alike; what is valid; the times are the bases; how much of an effect has happened. -/
import Derived.Test.YtmjdeejccmcpnaaT3
namespace Go.Proofs.Ytmjdeejccmcpnaa.Q
open Go.RowKit Go.Proofs.YtmjdeejccmcpnaaW.PrintWords Go.Proofs.YtmjdeejccmcpnaaW.PrintLast Go.Proofs.YtmjdeejccmcpnaaW.PrintMore
set_option linter.unusedVariables false
set_option linter.unusedSimpArgs false
theorem ins (a lo hi : Int) : chanceryref3_In.f a lo hi = some (decide (lo ≤ a) && decide (a ≤ hi)) := by
  rw [In_some]; congr 1; rw [Bool.decide_and]
set_option maxHeartbeats 4000000 in
/-- the two checks are one -/
theorem checks (k : Nat) : (∀ a b c, timeline_Check.l0 k a b c = chancerylaw3_effectsError.l0 k a b c) ∧
    (∀ a b c t f0 f1 f2 f3 f4 f5 f6, timeline_Check.j1 k a b c t f0 f1 f2 f3 f4 f5 f6 = chancerylaw3_effectsError.j1 k a b c t f0 f1 f2 f3 f4 f5 f6) ∧
    (∀ a b c t f0 f1 f2 f3 f4 f5 f6, timeline_Check.j2 k a b c t f0 f1 f2 f3 f4 f5 f6 = chancerylaw3_effectsError.j2 k a b c t f0 f1 f2 f3 f4 f5 f6) := by
  induction k with
  | zero => exact ⟨fun _ _ _ => by simp [timeline_Check.l0, chancerylaw3_effectsError.l0], fun _ _ _ _ _ _ _ _ _ _ _ => by simp [timeline_Check.j1, chancerylaw3_effectsError.j1], fun _ _ _ _ _ _ _ _ _ _ _ => by simp [timeline_Check.j2, chancerylaw3_effectsError.j2]⟩
  | succ k ih =>
    obtain ⟨ih0, ih1, ih2⟩ := ih
    refine ⟨fun a b c => ?_, fun a b c t f0 f1 f2 f3 f4 f5 f6 => ?_, fun a b c t f0 f1 f2 f3 f4 f5 f6 => ?_⟩
    · simp only [timeline_Check.l0, chancerylaw3_effectsError.l0, ins, Option.bind_some, ih1]
      generalize rd_T37 a c = x
      by_cases h1 : x.f1 < 0
      · simp [h1, show ¬ (0 ≤ x.f1) from by omega]
      · by_cases h2 : x.f1 > 2
        · simp [h1, h2, show (0 ≤ x.f1) from by omega, show ¬ (x.f1 ≤ 2) from by omega]
        · by_cases h3 : x.f2 < 0
          · simp [h1, h2, h3, show (0 ≤ x.f1) from by omega, show (x.f1 ≤ 2) from by omega, show ¬ (0 ≤ x.f2) from by omega]
          · by_cases h4 : x.f2 > 2
            · simp [h1, h2, h3, h4, show (0 ≤ x.f1) from by omega, show (x.f1 ≤ 2) from by omega, show (0 ≤ x.f2) from by omega, show ¬ (x.f2 ≤ 2) from by omega]
            · simp [h1, h2, h3, h4, show (0 ≤ x.f1) from by omega, show (x.f1 ≤ 2) from by omega, show (0 ≤ x.f2) from by omega, show (x.f2 ≤ 2) from by omega]
    · simp only [timeline_Check.j1, chancerylaw3_effectsError.j1, ins, Option.bind_some, ih2]
      cases t with
      | true => simp
      | false =>
        simp only [Bool.false_eq_true, if_false]
        by_cases a0 : f0 < 1
        · simp [a0, show ¬ (1 ≤ f0) from by omega]
        by_cases a1 : f0 > 1073741824
        · simp [a0, a1, show (1 ≤ f0) from by omega, show ¬ (f0 ≤ 1073741824) from by omega]
        by_cases b0 : f3 < 0
        · simp [a0, a1, b0, show (1 ≤ f0) from by omega, show (f0 ≤ 1073741824) from by omega, show ¬ (0 ≤ f3) from by omega]
        by_cases b1 : f3 > 10000000
        · simp [a0, a1, b0, b1, show (1 ≤ f0) from by omega, show (f0 ≤ 1073741824) from by omega, show (0 ≤ f3) from by omega, show ¬ (f3 ≤ 10000000) from by omega]
        by_cases c0 : f4 < 0
        · simp [a0, a1, b0, b1, c0, show (1 ≤ f0) from by omega, show (f0 ≤ 1073741824) from by omega, show (0 ≤ f3) from by omega, show (f3 ≤ 10000000) from by omega, show ¬ (0 ≤ f4) from by omega]
        by_cases c1 : f4 > 10000000
        · simp [a0, a1, b0, b1, c0, c1, show (1 ≤ f0) from by omega, show (f0 ≤ 1073741824) from by omega, show (0 ≤ f3) from by omega, show (f3 ≤ 10000000) from by omega, show (0 ≤ f4) from by omega, show ¬ (f4 ≤ 10000000) from by omega]
        have e : (1 ≤ f0) ∧ (f0 ≤ 1073741824) ∧ (0 ≤ f3) ∧ (f3 ≤ 10000000) ∧ (0 ≤ f4) ∧ (f4 ≤ 10000000) := by omega
        obtain ⟨e1, e2, e3, e4, e5, e6⟩ := e
        rw [if_neg a0, if_neg a1, if_neg b0, if_neg b1, if_neg c0, if_neg c1]
        simp only [e1, e2, e3, e4, e5, e6, decide_true, Bool.and_self, if_true]
        by_cases d0 : f5 < -1048576
        · simp [d0, show ¬ (-1048576 ≤ f5) from by omega]
        by_cases d1 : f5 > 1048576
        · simp [d0, d1, show (-1048576 ≤ f5) from by omega, show ¬ (f5 ≤ 1048576) from by omega]
        by_cases g0 : f6 < -1048576
        · simp [d0, d1, g0, show (-1048576 ≤ f5) from by omega, show (f5 ≤ 1048576) from by omega, show ¬ (-1048576 ≤ f6) from by omega]
        by_cases g1 : f6 > 1048576
        · simp [d0, d1, g0, g1, show (-1048576 ≤ f5) from by omega, show (f5 ≤ 1048576) from by omega, show (-1048576 ≤ f6) from by omega, show ¬ (f6 ≤ 1048576) from by omega]
        · simp [d0, d1, g0, g1, show (-1048576 ≤ f5) from by omega, show (f5 ≤ 1048576) from by omega, show (-1048576 ≤ f6) from by omega, show (f6 ≤ 1048576) from by omega]
    · simp only [timeline_Check.j2, chancerylaw3_effectsError.j2, ih0]
theorem check_same (k : Nat) (l : List S37) : chancerylaw3_effectsError.f k l = timeline_Check.f k l := by
  unfold chancerylaw3_effectsError.f timeline_Check.f
  rw [(checks k).1]
/-- what a checked effect is -/
def Valid (x : S37) : Prop := (0 ≤ x.f1 ∧ x.f1 ≤ 2) ∧ (0 ≤ x.f2 ∧ x.f2 ≤ 2) ∧ (1 ≤ x.f0 ∧ x.f0 ≤ 1073741824) ∧ (0 ≤ x.f3 ∧ x.f3 ≤ 10000000) ∧ (0 ≤ x.f4 ∧ x.f4 ≤ 10000000) ∧ (-1048576 ≤ x.f5 ∧ x.f5 ≤ 1048576) ∧ (-1048576 ≤ x.f6 ∧ x.f6 ≤ 1048576)
theorem wrap_succ (i n : Nat) (h : i < n) (hn : n ≤ 9223372036854775807) : wrap64 ((i : Int) + 1) = ((i + 1 : Nat) : Int) := by unfold wrap64; omega
theorem check_one (l : List S37) (i k : Nat) (hi : i < l.length) (hn : l.length ≤ 9223372036854775807) :
    (∃ r, timeline_Check.l0 (k + 3) l (l.length : Int) (i : Int) = some r ∧ r ≠ 0) ∨ (Valid (rd_T37 l (i : Int)) ∧ timeline_Check.l0 (k + 3) l (l.length : Int) (i : Int) = timeline_Check.l0 k l (l.length : Int) ((i + 1 : Nat) : Int)) := by
  have h0 : (i : Int) < (l.length : Int) := by omega
  have h1 : 0 ≤ (i : Int) := by omega
  simp only [timeline_Check.l0, timeline_Check.j1, timeline_Check.j2, if_pos h0, if_pos h1, wrap_succ i _ hi hn]
  generalize timeline_Check.l0 k l (l.length : Int) ((i + 1 : Nat) : Int) = R
  generalize rd_T37 l (i : Int) = x
  by_cases a1 : x.f1 < 0
  · simp [a1]
  by_cases a2 : x.f1 > 2
  · simp [a1, a2]
  by_cases a3 : x.f2 < 0
  · simp [a1, a2, a3]
  by_cases a4 : x.f2 > 2
  · simp [a1, a2, a3, a4]
  by_cases b1 : x.f0 < 1
  · simp [a1, a2, a3, a4, b1]
  by_cases b2 : x.f0 > 1073741824
  · simp [a1, a2, a3, a4, b1, b2]
  by_cases b3 : x.f3 < 0
  · simp [a1, a2, a3, a4, b1, b2, b3]
  by_cases b4 : x.f3 > 10000000
  · simp [a1, a2, a3, a4, b1, b2, b3, b4]
  by_cases b5 : x.f4 < 0
  · simp [a1, a2, a3, a4, b1, b2, b3, b4, b5]
  by_cases b6 : x.f4 > 10000000
  · simp [a1, a2, a3, a4, b1, b2, b3, b4, b5, b6]
  by_cases c1 : x.f5 < -1048576
  · simp [a1, a2, a3, a4, b1, b2, b3, b4, b5, b6, c1]
  by_cases c2 : x.f5 > 1048576
  · simp [a1, a2, a3, a4, b1, b2, b3, b4, b5, b6, c1, c2]
  by_cases c3 : x.f6 < -1048576
  · simp [a1, a2, a3, a4, b1, b2, b3, b4, b5, b6, c1, c2, c3]
  by_cases c4 : x.f6 > 1048576
  · simp [a1, a2, a3, a4, b1, b2, b3, b4, b5, b6, c1, c2, c3, c4]
  have hv : Valid x := ⟨⟨by omega, by omega⟩, ⟨by omega, by omega⟩, ⟨by omega, by omega⟩, ⟨by omega, by omega⟩, ⟨by omega, by omega⟩, ⟨by omega, by omega⟩, ⟨by omega, by omega⟩⟩
  by_cases d1 : x.f1 = 2
  · exact .inr ⟨hv, by simp [a1, a2, a3, a4, b1, b2, b3, b4, b5, b6, c1, c2, c3, c4, d1]⟩
  by_cases d2 : x.f5 = 0
  · by_cases d3 : x.f6 = 0
    · exact .inr ⟨hv, by simp [a1, a2, a3, a4, b1, b2, b3, b4, b5, b6, d1, d2, d3]⟩
    · exact .inl ⟨4, by simp [a1, a2, a3, a4, b1, b2, b3, b4, b5, b6, c3, c4, d1, d2, d3], by decide⟩
  · exact .inl ⟨4, by simp [a1, a2, a3, a4, b1, b2, b3, b4, b5, b6, c1, c2, c3, c4, d1, d2], by decide⟩
theorem check_go (l : List S37) (hn : l.length ≤ 9223372036854775807) (d : Nat) : ∀ i k : Nat, i ≤ l.length → l.length - i = d → 3 * d < k →
    ∃ r, timeline_Check.l0 k l (l.length : Int) (i : Int) = some r ∧ (r = 0 → ∀ j : Nat, i ≤ j → j < l.length → Valid (rd_T37 l (j : Int))) := by
  induction d with
  | zero =>
    intro i k hi hd hk
    obtain ⟨k, rfl⟩ : ∃ m, k = m + 1 := ⟨k - 1, by omega⟩
    exact ⟨0, by simp only [timeline_Check.l0]; rw [if_neg (by omega)], fun _ j h1 h2 => by omega⟩
  | succ d ih =>
    intro i k hi hd hk
    obtain ⟨k, rfl⟩ : ∃ m, k = m + 3 := ⟨k - 3, by omega⟩
    rcases check_one l i k (by omega) hn with ⟨r, h1, h2⟩ | ⟨hv, h⟩
    · exact ⟨r, h1, fun h0 => absurd h0 h2⟩
    · obtain ⟨r, h1, h2⟩ := ih (i + 1) k (by omega) (by omega) (by omega)
      refine ⟨r, by rw [h]; exact h1, fun h0 j hj1 hj2 => ?_⟩
      by_cases e : j = i
      · rw [e]; exact hv
      · exact h2 h0 j (by omega) hj2
theorem check_some (l : List S37) (hl : l.length ≤ 30) : ∃ r, timeline_Check.f 91 l = some r ∧ (r = 0 → ∀ j : Nat, j < l.length → Valid (rd_T37 l (j : Int))) := by
  obtain ⟨r, h1, h2⟩ := check_go l (by omega) l.length 0 91 (by omega) (by omega) (by omega)
  exact ⟨r, by unfold timeline_Check.f; rw [if_neg (by omega)]; exact h1, fun h0 j hj => h2 h0 j (by omega) hj⟩
end Go.Proofs.Ytmjdeejccmcpnaa.Q
