/- The law's own walk. -/
import Derived.Test.YtmjdeejccmcpnaaT1
namespace Go.Proofs.Ytmjdeejccmcpnaa.Q
open Go.RowKit Go.Proofs.YtmjdeejccmcpnaaW.PrintWords Go.Proofs.YtmjdeejccmcpnaaW.PrintLast Go.Proofs.YtmjdeejccmcpnaaW.PrintMore
set_option linter.unusedVariables false
set_option linter.unusedSimpArgs false
attribute [local go_sem high] eqA33
theorem C_30 {w : World} {A : Option Addr} {xs : List S37} (h : Kd.C k37 w A xs.length xs) : Kd.C k37 w A (xs.take 30).length (xs.take 30) := by
  obtain ⟨h1, h2, h3⟩ := h
  refine ⟨rfl, by rw [List.length_take]; omega, fun h0 => ?_⟩
  rw [List.length_take] at h0
  obtain ⟨ad, e, hc⟩ := h3 (by omega)
  refine ⟨ad, e, fun j p hj => hc j p ?_⟩
  rw [List.getElem?_take] at hj
  split at hj
  · exact hj
  · cases hj
/-- what the law holds when it begins -/
structure Ctx (w w1 : World) (A : Option Addr) (c : Nat) (l : List S37) : Prop where
  r : Kd.C k37 w A l.length l
  c : l.length ≤ c
  b : Below w.heap.size w w1
theorem Ctx.step {w w1 w2 : World} {A : Option Addr} {c : Nat} {l : List S37} (h : Ctx w w1 A c l) (hb : Below w1.heap.size w1 w2) : Ctx w w2 A c l := ⟨h.r, h.c, h.b.trans (hb.mono h.b.size)⟩
theorem Ctx.now {w w1 : World} {A : Option Addr} {c : Nat} {l : List S37} (h : Ctx w w1 A c l) : Kd.C k37 w1 A l.length l := Kd.C_below h.r h.b
theorem drawn_step {w w1 w2 : World} {A : Option Addr} {c : Nat} {l : List S37} (h : Ctx w w1 A c l) (hb : Drawn0 w1 w2) : Ctx w w2 A c l := h.step hb.below
set_option maxHeartbeats 4000000 in
set_option maxRecDepth 100000 in
theorem law_err (A0 : Option Addr) (c0 : Nat) (L : List S37) (click at_ : Int) (w : World) (hr0 : Kd.C k37 w A0 L.length L) (hc0 : L.length ≤ c0)
    (kC kE : Nat) (r : Int) (hC : timeline_Check.f kC (L.take 30) = some r) (hE : chancerylaw3_effectsError.f kE (L.take 30) = some r) (hr : r ≠ 0) :
    Calls Try.prog 3 #[.slice A0 L.length c0, .int .i64 click, .int .i64 at_] w fun e w' => e = .returned (.bool true) ∧ Below w.heap.size w w' := by
  have hm := hr0.2.1
  have HX := Aside0.mk (show Ctx w w A0 c0 (L.take 30) from ⟨C_30 hr0, by rw [List.length_take]; omega, Below.refl _ _⟩)
  obtain ⟨l, hl⟩ : ∃ l, L.take 30 = l := ⟨_, rfl⟩
  rw [hl] at hC hE HX
  have hcapL : L.length ≤ c0 := hc0
  have hl30 : l.length ≤ 30 := by rw [← hl, List.length_take]; omega
  have HL := Aside0.mk hl
  clear hl hr0
  have hb : (r != 0) = true := bne_iff_ne.2 hr
  have hb2 : (r == 0) = false := beq_eq_false_iff_ne.2 hr
  have HC := Aside0.mk hC
  have HE := Aside0.mk hE
  have HR := Aside0.mk hr
  clear hC hE hr
  go_enter Try.func3, Try.ntmps3
  go_upto_if 23 with (go_at_call 4; refine (timed_ok _).mono ?_; rintro e w1 ⟨rfl, hb1⟩; have HX1 := Aside0.mk (HX.out.step hb1); clear hb1)
  go_cut [0] (fun v0 wc => v0 = .slice A0 l.length c0 ∧ Aside0 (Ctx w wc A0 c0 l))
  case first =>
    by_cases h30 : 30 < L.length
    · have hll : 30 = l.length := by rw [← HL.out, List.length_take]; omega
      go_wp2_with fail
      go_meet
      case rel => exact ⟨by rw [← hll], HX1⟩
    · have hll : l = L := by rw [← HL.out]; exact List.take_of_length_le (by omega)
      subst hll
      go_wp2_with fail
      go_meet
      case rel => exact ⟨rfl, HX1⟩
  case rest =>
    clear HX HX1
    obtain ⟨rfl, HX⟩ := hcut
    go_wp2_with (first
      | (go_at_call 5; refine (state_err A0 c0 l click at_ _ HX.out.now HX.out.c kC r HC.out HR.out).mono ?_; rintro e w2 ⟨rfl, hb2'⟩; have HX2 := Aside0.mk (HX.out.step hb2'); clear hb2')
      | (go_at_call 6; refine (chancerylaw3_effectsError.calls kE A0 c0 l r _ HX2.out.now HX2.out.c HE.out).mono ?_; rintro e w3 ⟨rfl, hb3⟩; have HX3 := Aside0.mk (HX2.out.step hb3); clear hb3))
    go_ret
    exact ⟨rfl, HX3.out.b⟩
theorem In_some (a lo hi : Int) : chanceryref3_In.f a lo hi = some (decide (lo ≤ a ∧ a ≤ hi)) := by
  unfold chanceryref3_In.f
  by_cases h : a ≥ lo
  · rw [if_pos h]; simp [show lo ≤ a from h]
  · rw [if_neg h]; simp [show ¬ lo ≤ a from h]
set_option maxHeartbeats 4000000 in
set_option maxRecDepth 100000 in
theorem law_rng (A0 : Option Addr) (c0 : Nat) (L : List S37) (click at_ : Int) (w : World) (hr0 : Kd.C k37 w A0 L.length L) (hc0 : L.length ≤ c0)
    (kC kE : Nat) (hC : timeline_Check.f kC (L.take 30) = some 0) (hE : chancerylaw3_effectsError.f kE (L.take 30) = some 0) (hr : ¬ (0 ≤ click ∧ click ≤ 200 ∧ 0 ≤ at_ ∧ at_ ≤ 10000000)) :
    Calls Try.prog 3 #[.slice A0 L.length c0, .int .i64 click, .int .i64 at_] w fun e w' => e = .returned (.bool true) ∧ Below w.heap.size w w' := by
  have hm := hr0.2.1
  have HX := Aside0.mk (show Ctx w w A0 c0 (L.take 30) from ⟨C_30 hr0, by rw [List.length_take]; omega, Below.refl _ _⟩)
  obtain ⟨l, hl⟩ : ∃ l, L.take 30 = l := ⟨_, rfl⟩
  rw [hl] at hC hE HX
  have hcapL : L.length ≤ c0 := hc0
  have hl30 : l.length ≤ 30 := by rw [← hl, List.length_take]; omega
  have HL := Aside0.mk hl
  clear hl hr0
  have HC := Aside0.mk hC
  have HE := Aside0.mk hE
  have HR := Aside0.mk hr
  obtain ⟨b1, hb1⟩ : ∃ b, decide (0 ≤ click ∧ click ≤ 200) = b := ⟨_, rfl⟩
  obtain ⟨b2, hb2⟩ : ∃ b, decide (0 ≤ at_ ∧ at_ ≤ 10000000) = b := ⟨_, rfl⟩
  have HI1 := Aside0.mk (show chanceryref3_In.f click 0 200 = some b1 by rw [In_some, hb1])
  have HI2 := Aside0.mk (show chanceryref3_In.f at_ 0 10000000 = some b2 by rw [In_some, hb2])
  have HB := Aside0.mk (show b1 = false ∨ b2 = false by
    cases b1
    · exact .inl rfl
    · cases b2
      · exact .inr rfl
      · simp only [decide_eq_true_eq] at hb1 hb2
        exact absurd ⟨hb1.1, hb1.2, hb2.1, hb2.2⟩ hr)
  clear hC hE hr hb1 hb2
  go_enter Try.func3, Try.ntmps3
  go_upto_if 23 with (go_at_call 4; refine (timed_ok _).mono ?_; rintro e w1 ⟨rfl, hb1⟩; have HX1 := Aside0.mk (HX.out.step hb1); clear hb1)
  go_cut [0] (fun v0 wc => v0 = .slice A0 l.length c0 ∧ Aside0 (Ctx w wc A0 c0 l))
  case first =>
    by_cases h30 : 30 < L.length
    · have hll : 30 = l.length := by rw [← HL.out, List.length_take]; omega
      go_wp2_with fail
      go_meet
      case rel => exact ⟨by rw [← hll], HX1⟩
    · have hll : l = L := by rw [← HL.out]; exact List.take_of_length_le (by omega)
      subst hll
      go_wp2_with fail
      go_meet
      case rel => exact ⟨rfl, HX1⟩
  case rest =>
    clear HX HX1
    obtain ⟨rfl, HX⟩ := hcut
    go_upto_region 7 with (first
      | (go_at_call 5; refine (state_rng A0 c0 l click at_ _ HX.out.now HX.out.c kC HC.out HR.out).mono ?_; rintro e w2 ⟨rfl, hb2'⟩; have HX2 := Aside0.mk (HX.out.step hb2'); clear hb2')
      | (go_at_call 6; refine (chancerylaw3_effectsError.calls kE A0 c0 l 0 _ HX2.out.now HX2.out.c HE.out).mono ?_; rintro e w3 ⟨rfl, hb3⟩; have HX3 := Aside0.mk (HX2.out.step hb3); clear hb3))
    cases b1
    · go_wp2_with (go_at_call 7; refine (chanceryref3_In.calls click 0 200 false _ HI1.out).mono ?_; rintro e w4 ⟨rfl, hb4⟩; have HX4 := Aside0.mk (HX3.out.step hb4.below); clear hb4)
      go_ret
      exact ⟨rfl, HX4.out.b⟩
    · cases b2
      · go_wp2_with (first
          | (go_at_call_of 7 (Value.int .i64 click); refine (chanceryref3_In.calls click 0 200 true _ HI1.out).mono ?_; rintro e w4 ⟨rfl, hb4⟩; have HX4 := Aside0.mk (HX3.out.step hb4.below); clear hb4)
          | (go_at_call_of 7 (Value.int .i64 at_); refine (chanceryref3_In.calls at_ 0 10000000 false _ HI2.out).mono ?_; rintro e w5 ⟨rfl, hb5⟩; have HX5 := Aside0.mk (HX4.out.step hb5.below); clear hb5))
        go_ret
        exact ⟨rfl, HX5.out.b⟩
      · rcases HB.out with h | h <;> cases h
end Go.Proofs.Ytmjdeejccmcpnaa.Q
