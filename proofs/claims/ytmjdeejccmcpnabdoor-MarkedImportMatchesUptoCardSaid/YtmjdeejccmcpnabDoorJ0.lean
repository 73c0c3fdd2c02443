/- linkAt: the link that begins at a token, in plain words, and the walk. -/
import Derived.Test.YtmjdeejccmcpnabDoorQ75
import Derived.Test.YtmjdeejccmcpnabDoorQ76
namespace Go.Proofs.YtmjdeejccmcpnabDoor.Q
open Go.RowKit Go.Proofs.YtmjdeejccmcpnabDoorW.PrintWords Go.Proofs.YtmjdeejccmcpnabDoorW.PrintLast Go.Proofs.YtmjdeejccmcpnabDoorW.PrintMore
set_option linter.unusedVariables false
set_option linter.unusedSimpArgs false
def isT (t : S66) (c : Int) : Bool := !t.f2 && !t.f3 && t.f0 == c
def tokV (t : S66) : Value := .agg #[.int .i64 t.f0, .int .i64 t.f1, .bool t.f2, .bool t.f3]
theorem is_ok (t : S66) (c : Int) (b : Bool) (h : isT t c = b) (h0 : 0 ≤ c) (h1 : c < 256) (w : World) :
    Calls Tryd.prog 29 #[.agg #[.int .i64 t.f0, .int .i64 t.f1, .bool t.f2, .bool t.f3], .int .u8 c] w fun e w' => e = .returned (.bool b) ∧ Below w.heap.size w w' := by
  refine chanceryref2_token_is.calls t.f0 t.f1 t.f2 t.f3 c b w ?_
  have hw : wrap64 c = c := by unfold wrap64; omega
  subst h
  unfold chanceryref2_token_is.f isT
  rw [hw]
  cases t.f2 <;> cases t.f3 <;> simp
theorem is_ok3 (t : S66) (c : Int) (b : Bool) (h : isT t c = b) (h3 : t.f3 = false) (h0 : 0 ≤ c) (h1 : c < 256) (w : World) :
    Calls Tryd.prog 29 #[.agg #[.int .i64 t.f0, .int .i64 t.f1, .bool t.f2, .bool false], .int .u8 c] w fun e w' => e = .returned (.bool b) ∧ Below w.heap.size w w' := by
  have := is_ok t c b h h0 h1 w
  rwa [h3] at this
theorem conv1 (x : Int) (W : World) : (convert 62 9 (.slice (some ⟨W.heap.size, 0, none⟩) 1 1)).run Tryd.prog (W.alloc (.cells #[.int .u8 x] 5)) = .ok (.string ⟨#[UInt8.ofNat x.toNat]⟩) (W.alloc (.cells #[.int .u8 x] 5)) := by
  have h2 := World.ownsRow_lit (base := W.heap.size) (e := 5) (size := 1) W #[.int .u8 x] 1 (Nat.le_refl _) (by decide) rfl
  exact own_string (P := Tryd.prog) (xs := [x]) Tryd.underlying62 Tryd.underlying5 Tryd.underlying9 h2
theorem str_empty0 (x : ByteArray) : x.toList.isEmpty = decide (x.size = 0) := by
  rw [ByteArray.toList_eq, Bool.eq_iff_iff, List.isEmpty_iff, decide_eq_true_iff, ← List.length_eq_zero_iff]
  exact Iff.rfl
/-- the link's text, behind its ]( -/
def lkD (k : Nat) : List S66 → Nat → List UInt8 → Option (List UInt8 × Nat × Nat)
  | [], _, _ => none
  | t :: r, m, b => if isT t 41 = true then (if b.length = 0 ∨ 200 < b.length then none else some (b, k, m + 1))
    else if t.f3 = true ∨ t.f0 < 32 ∨ 126 < t.f0 ∨ isT t 92 = true then none else lkD k r (m + 1) (b ++ [UInt8.ofNat t.f0.toNat])
/-- does a ]( begin here? -/
def opn : List S66 → Bool
  | t :: u :: _ => isT t 93 && isT u 40
  | _ => false
def lkS : List S66 → Nat → Option (List UInt8 × Nat × Nat)
  | [], _ => none
  | t :: r, k => if isT t 91 = true then none else if opn (t :: r) = true then lkD k (r.drop 1) (k + 2) [] else lkS r (k + 1)
def lkV : Option (List UInt8 × Nat × Nat) → Value
  | none => .tuple #[.string ⟨#[]⟩, .int .i64 0, .int .i64 0]
  | some (b, k, m) => .tuple #[.string ⟨b.toArray⟩, .int .i64 (k : Int), .int .i64 (m : Int)]
theorem lkS_cons (t : S66) (r : List S66) (k : Nat) : lkS (t :: r) k = if isT t 91 = true then none else if opn (t :: r) = true then lkD k (r.drop 1) (k + 2) [] else lkS r (k + 1) := rfl
theorem lkD_cons (k : Nat) (t : S66) (r : List S66) (m : Nat) (b : List UInt8) : lkD k (t :: r) m b = if isT t 41 = true then (if b.length = 0 ∨ 200 < b.length then none else some (b, k, m + 1))
    else if t.f3 = true ∨ t.f0 < 32 ∨ 126 < t.f0 ∨ isT t 92 = true then none else lkD k r (m + 1) (b ++ [UInt8.ofNat t.f0.toNat]) := rfl
/-- the tokens in memory -/
structure Tk (w : World) (a : Addr) (l : List S66) : Prop where
  c0 : ∀ k t, l[k]? = some t → w.cell? (a.add (k * 4)) = some (.int .i64 t.f0)
  c1 : ∀ k t, l[k]? = some t → w.cell? ⟨(a.add (k * 4)).block, (a.add (k * 4)).off + 1, none⟩ = some (.int .i64 t.f1)
  c2 : ∀ k t, l[k]? = some t → w.cell? ⟨(a.add (k * 4)).block, (a.add (k * 4)).off + 2, none⟩ = some (.bool t.f2)
  c3 : ∀ k t, l[k]? = some t → w.cell? ⟨(a.add (k * 4)).block, (a.add (k * 4)).off + 3, none⟩ = some (.bool t.f3)
theorem Tk.of {w : World} {a : Addr} {l : List S66} (h : Kd.C k66 w (some a) l.length l) : Tk w a l := by
  have H : ∀ k t, l[k]? = some t → w.cell? (a.add (k * 4)) = some (.int .i64 t.f0) ∧ w.cell? ⟨(a.add (k * 4)).block, (a.add (k * 4)).off + 1, none⟩ = some (.int .i64 t.f1) ∧ w.cell? ⟨(a.add (k * 4)).block, (a.add (k * 4)).off + 2, none⟩ = some (.bool t.f2) ∧ w.cell? ⟨(a.add (k * 4)).block, (a.add (k * 4)).off + 3, none⟩ = some (.bool t.f3) := by
    intro k t ht
    have hk : k < l.length := (List.getElem?_eq_some_iff.1 ht).1
    obtain ⟨ad, e, h0, h1, h2, h3⟩ := at_T66 h (k : Int) (by omega) (by omega)
    cases e
    have e2 : rd_T66 l (k : Int) = t := by unfold rd_T66; rw [Int.toNat_natCast, List.getD_eq_getElem?_getD, ht]; rfl
    rw [e2, Int.toNat_natCast] at h0 h1 h2 h3
    exact ⟨h0, h1, h2, h3⟩
  exact ⟨fun k t h => (H k t h).1, fun k t h => (H k t h).2.1, fun k t h => (H k t h).2.2.1, fun k t h => (H k t h).2.2.2⟩
theorem Tk.below {w w' : World} {a : Addr} {l : List S66} (h : Tk w a l) (hb : Below w.heap.size w w') : Tk w' a l :=
  ⟨fun k t e => pw_cell_below hb (h.c0 k t e), fun k t e => pw_cell_below hb (h.c1 k t e), fun k t e => pw_cell_below hb (h.c2 k t e), fun k t e => pw_cell_below hb (h.c3 k t e)⟩
set_option maxHeartbeats 4000000 in
set_option maxRecDepth 100000 in
theorem linkAt_ok (a : Addr) (cp : Nat) (l : List S66) (i : Nat) (w : World) (hT : Tk w a l) (hi : i < l.length) (hl : l.length ≤ 1048576) :
    Calls Tryd.prog 30 #[.slice (some a) l.length cp, .int .i64 (i : Int)] w fun e w' => e = .returned (lkV (lkS (l.drop (i + 1)) (i + 1))) ∧ Below w.heap.size w w' := by
  have HT := Aside0.mk hT
  obtain ⟨N, hN⟩ : ∃ N, l.length = N := ⟨_, rfl⟩
  rw [hN] at hi hl ⊢
  have HN := Aside0.mk hN
  obtain ⟨R, hR⟩ : ∃ R, lkS (l.drop (i + 1)) (i + 1) = R := ⟨_, rfl⟩
  rw [hR]
  have HR := Aside0.mk hR
  clear hT hN hR
  go_enter Tryd.func30, Tryd.ntmps30
  go_wp2_with fail
  go_loopg [7] N (fun gk v7 wr => ∃ k : Nat, k ≤ N ∧ N - k ≤ gk ∧ v7 = .int .i64 (k : Int) ∧ Aside0 (lkS (l.drop k) k = R) ∧ Aside0 (Below w.heap.size w wr))
  case atStart => exact ⟨i + 1, by omega, by omega, by go_num, HR, ⟨Below.refl _ _⟩⟩
  case round =>
    clear HR hi
    obtain ⟨k, hk, hgk, rfl, HR, HB⟩ := hrel
    by_cases hlt : k < N
    · have hkl : k < l.length := by rw [HN.out]; omega
      have HD := Aside0.mk (List.drop_eq_getElem_cons hkl)
      have HX := Aside0.mk (List.getElem?_eq_getElem hkl)
      obtain ⟨t, ht⟩ : ∃ t, l[k]'hkl = t := ⟨_, rfl⟩
      rw [ht] at HD HX
      clear ht hkl
      have HTB := Aside0.mk (HT.out.below HB.out)
      have hkb : decide ((k : Int) < (N : Int)) = true := decide_eq_true (by omega)
      have hkp : ((k : Int) < (N : Int)) = True := eq_true (by omega)
      have x0 := HTB.out.c0 k t HX.out
      have x1 := HTB.out.c1 k t HX.out
      have x2 := HTB.out.c2 k t HX.out
      have x3 := HTB.out.c3 k t HX.out
      obtain ⟨b91, h91⟩ : ∃ b, isT t 91 = b := ⟨_, rfl⟩
      have H91 := Aside0.mk h91
      clear h91
      cases b91
      · go_upto_region 4 with (go_at_call 29; refine (is_ok t 91 false H91.out (by decide) (by decide) _).mono ?_; rintro e w5 ⟨rfl, hb5⟩; have HB5 := Aside0.mk (HB.out.trans (hb5.mono HB.out.size)); have HTB5 := Aside0.mk (HTB.out.below hb5); clear hb5)
        clear HB HTB x0 x1 x2 x3
        have x0 := HTB5.out.c0 k t HX.out
        have x1 := HTB5.out.c1 k t HX.out
        have x2 := HTB5.out.c2 k t HX.out
        have x3 := HTB5.out.c3 k t HX.out
        obtain ⟨op, hop⟩ : ∃ b, opn (l.drop k) = b := ⟨_, rfl⟩
        have HOP := Aside0.mk hop
        clear hop
        go_cut [47] (fun v47 wc => v47 = .bool (!op) ∧ Aside0 (Below w.heap.size w wc) ∧ Aside0 (op = true → k + 1 < N))
        case first =>
          obtain ⟨b93, h93⟩ : ∃ b, isT t 93 = b := ⟨_, rfl⟩
          have H93 := Aside0.mk h93
          clear h93
          cases b93
          · have HQ := Aside0.mk (show op = false by
              rw [← HOP.out, HD.out]
              cases l.drop (k + 1) with
              | nil => rfl
              | cons u r => show (isT t 93 && isT u 40) = false; rw [H93.out]; rfl)
            go_wp2_with (go_at_call 29; refine (is_ok t 93 false H93.out (by decide) (by decide) _).mono ?_; rintro e w6 ⟨rfl, hb6⟩; have HB6 := Aside0.mk (HB5.out.trans (hb6.mono HB5.out.size)); clear hb6)
            go_meet
            case rel => exact ⟨by rw [HQ.out]; rfl, HB6, ⟨by rw [HQ.out]; simp⟩⟩
          · by_cases hk1 : k + 1 = N
            · have hkb1 : ((k : Int) + 1 == (N : Int)) = true := beq_iff_eq.2 (by omega)
              have HQ := Aside0.mk (show op = false by
                rw [← HOP.out, HD.out, List.drop_of_length_le (by rw [HN.out]; omega)]
                rfl)
              have HKK := Aside0.mk hk1
              clear hk1
              go_wp2_with (go_at_call 29; refine (is_ok t 93 true H93.out (by decide) (by decide) _).mono ?_; rintro e w6 ⟨rfl, hb6⟩; have HB6 := Aside0.mk (HB5.out.trans (hb6.mono HB5.out.size)); clear hb6)
              go_meet
              case rel => exact ⟨by rw [HQ.out]; rfl, HB6, ⟨by rw [HQ.out]; simp⟩⟩
            · have hkb1 : ((k : Int) + 1 == (N : Int)) = false := beq_eq_false_iff_ne.2 (by omega)
              have hk2 : k + 1 < N := by omega
              have hkl : k + 1 < l.length := by rw [HN.out]; omega
              have hkp1 : ((k : Int) + 1 < (N : Int)) = True := eq_true (by omega)
              have HD1 := Aside0.mk (List.drop_eq_getElem_cons hkl)
              have HX1 := Aside0.mk (List.getElem?_eq_getElem hkl)
              obtain ⟨u, hu⟩ : ∃ u, l[k + 1]'hkl = u := ⟨_, rfl⟩
              rw [hu] at HD1 HX1
              clear hu hkl hk1
              obtain ⟨b40, h40⟩ : ∃ b, isT u 40 = b := ⟨_, rfl⟩
              have HQ := Aside0.mk (show op = b40 by
                rw [← HOP.out, HD.out, HD1.out]
                show (isT t 93 && isT u 40) = b40
                rw [H93.out, h40]; rfl)
              have H40 := Aside0.mk h40
              clear h40
              go_wp2_with (first
                | (go_at_call_of 29 (Value.int IntKind.u8 93); refine (is_ok t 93 true H93.out (by decide) (by decide) _).mono ?_; rintro e w6 ⟨rfl, hb6⟩; have HB6 := Aside0.mk (HB5.out.trans (hb6.mono HB5.out.size)); have HTB6 := Aside0.mk (HTB5.out.below hb6); have y0 := HTB6.out.c0 (k + 1) u HX1.out; have y1 := HTB6.out.c1 (k + 1) u HX1.out; have y2 := HTB6.out.c2 (k + 1) u HX1.out; have y3 := HTB6.out.c3 (k + 1) u HX1.out; clear hb6)
                | (go_at_call_of 29 (Value.int IntKind.u8 40); refine (is_ok u 40 b40 H40.out (by decide) (by decide) _).mono ?_; rintro e w7 ⟨rfl, hb7⟩; have HB7 := Aside0.mk (HB6.out.trans (hb7.mono HB6.out.size)); clear hb7))
              go_meet
              case rel => exact ⟨by rw [HQ.out], HB7, ⟨fun _ => hk2⟩⟩
        case rest =>
          clear HB5 HTB5 x0 x1 x2 x3
          obtain ⟨rfl, HB6, HK2⟩ := hcut
          cases op
          · have HR2 := Aside0.mk (show lkS (l.drop (k + 1)) (k + 1) = R by
              have := HR.out
              rw [HD.out, lkS_cons, ← HD.out, HOP.out, H91.out] at this
              exact this)
            go_wp2_with fail
            go_roundg (N - (k + 1))
            case measure => omega
            case rel => exact ⟨k + 1, by omega, by omega, by go_num, HR2, HB6⟩
          · have hk2 : k + 1 < N := HK2.out rfl
            have HR2 := Aside0.mk (show lkD k (l.drop (k + 2)) (k + 2) [] = R by
              have := HR.out
              rw [HD.out, lkS_cons, ← HD.out, HOP.out, H91.out, List.drop_drop] at this
              exact this)
            clear HR HOP H91 HD HX HK2
            obtain ⟨wo, rfl⟩ : ∃ wo : World, wo = wc := ⟨_, rfl⟩
            go_wp2_with fail
            go_loopg [8, 9] N (fun gk v8 v9 wr => ∃ (m : Nat) (b : ByteArray), m ≤ N ∧ N - m ≤ gk ∧ v8 = .string b ∧ v9 = .int .i64 (m : Int) ∧ Aside0 (b.size ≤ m) ∧ Aside0 (lkD k (l.drop m) m b.data.toList = R) ∧ Aside0 (Below w.heap.size w wr))
            case atStart => exact ⟨k + 2, ⟨#[]⟩, by omega, by omega, rfl, by go_num, ⟨Nat.zero_le _⟩, HR2, HB6⟩
            case round =>
              clear HR2 HB6
              obtain ⟨m, b, hm, hgm, rfl, rfl, HBL, HR, HB⟩ := hrel
              by_cases hlt2 : m < N
              · have hkl : m < l.length := by rw [HN.out]; omega
                have HD := Aside0.mk (List.drop_eq_getElem_cons hkl)
                have HX := Aside0.mk (List.getElem?_eq_getElem hkl)
                obtain ⟨t, ht⟩ : ∃ t, l[m]'hkl = t := ⟨_, rfl⟩
                rw [ht] at HD HX
                have HR2 := Aside0.mk (HR.out)
                rw [HD.out, lkD_cons] at HR2
                clear ht hkl HR HD
                have HTB := Aside0.mk (HT.out.below HB.out)
                have hkb : decide ((m : Int) < (N : Int)) = true := decide_eq_true (by omega)
                have hkp : ((m : Int) < (N : Int)) = True := eq_true (by omega)
                have x0 := HTB.out.c0 m t HX.out
                have x1 := HTB.out.c1 m t HX.out
                have x2 := HTB.out.c2 m t HX.out
                have x3 := HTB.out.c3 m t HX.out
                obtain ⟨b41, h41⟩ : ∃ b, isT t 41 = b := ⟨_, rfl⟩
                have H41 := Aside0.mk h41
                rw [h41] at HR2
                clear h41
                cases b41
                · go_upto_region 13 with (go_at_call 29; refine (is_ok t 41 false H41.out (by decide) (by decide) _).mono ?_; rintro e w5 ⟨rfl, hb5⟩; have HB5 := Aside0.mk (HB.out.trans (hb5.mono HB.out.size)); have HTB5 := Aside0.mk (HTB.out.below hb5); clear hb5)
                  clear HB HTB x0 x1 x2 x3
                  have x0 := HTB5.out.c0 m t HX.out
                  have x1 := HTB5.out.c1 m t HX.out
                  have x2 := HTB5.out.c2 m t HX.out
                  have x3 := HTB5.out.c3 m t HX.out
                  obtain ⟨bd, hbd⟩ : ∃ b, decide (t.f3 = true ∨ t.f0 < 32 ∨ 126 < t.f0 ∨ isT t 92 = true) = b := ⟨_, rfl⟩
                  have HBD := Aside0.mk hbd
                  clear hbd
                  go_cut [99] (fun v99 wc => v99 = .bool bd ∧ Aside0 (Below w.heap.size w wc))
                  case first =>
                    by_cases h3 : t.f3 = true
                    · have HQ := Aside0.mk (show bd = true by rw [← HBD.out]; exact decide_eq_true (.inl h3))
                      go_wp2_with fail
                      go_meet
                      case rel => exact ⟨by rw [HQ.out], HB5⟩
                    · have h3b : t.f3 = false := by simpa using h3
                      by_cases h32 : t.f0 < 32
                      · have HQ := Aside0.mk (show bd = true by rw [← HBD.out]; exact decide_eq_true (.inr (.inl h32)))
                        have d1 : decide (t.f0 < 32) = true := decide_eq_true h32
                        clear h3
                        go_wp2_with fail
                        go_meet
                        case rel => exact ⟨by rw [HQ.out], HB5⟩
                      · have d1 : decide (t.f0 < 32) = false := decide_eq_false h32
                        by_cases h126 : 126 < t.f0
                        · have HQ := Aside0.mk (show bd = true by rw [← HBD.out]; exact decide_eq_true (.inr (.inr (.inl h126))))
                          have d2 : decide (126 < t.f0) = true := decide_eq_true h126
                          clear h3
                          go_wp2_with fail
                          go_meet
                          case rel => exact ⟨by rw [HQ.out], HB5⟩
                        · have d2 : decide (126 < t.f0) = false := decide_eq_false h126
                          obtain ⟨b92, h92⟩ : ∃ b, isT t 92 = b := ⟨_, rfl⟩
                          have HQ := Aside0.mk (show bd = b92 by rw [← HBD.out, h92]; simp [h3, h32, h126])
                          have H92 := Aside0.mk h92
                          have H3B := Aside0.mk h3b
                          clear h3 h92 h3b
                          rw [H3B.out] at x3
                          go_wp2_with (go_at_call 29; refine (is_ok3 t 92 b92 H92.out H3B.out (by decide) (by decide) _).mono ?_; rintro e w6 ⟨rfl, hb6⟩; have HB6 := Aside0.mk (HB5.out.trans (hb6.mono HB5.out.size)); clear hb6)
                          go_meet
                          case rel => exact ⟨by rw [HQ.out], HB6⟩
                  case rest =>
                    clear HB5 HTB5 x0 x1 x2 x3
                    obtain ⟨rfl, HB6⟩ := hcut
                    cases bd
                    · have hbd := of_decide_eq_false HBD.out
                      have e1 : ¬ t.f0 < 32 := fun h => hbd (.inr (.inl h))
                      have e2 : ¬ 126 < t.f0 := fun h => hbd (.inr (.inr (.inl h)))
                      have HR3 := Aside0.mk (show lkD k (l.drop (m + 1)) (m + 1) (b.data.toList ++ [UInt8.ofNat t.f0.toNat]) = R by
                        have := HR2.out
                        rwa [if_neg (by decide), if_neg hbd] at this)
                      have x0 := (HT.out.below HB6.out).c0 m t HX.out
                      have hmod : t.f0 % 256 = t.f0 := by omega
                      have hcv := fun W : World => conv1 t.f0 W
                      clear HR2 HBD hbd
                      have HB7 := Aside0.mk (HB6.out.alloc HB6.out.size (.cells #[.int .u8 t.f0] 5))
                      have HBL2 := Aside0.mk (show (b ++ (⟨#[UInt8.ofNat t.f0.toNat]⟩ : ByteArray)).size ≤ m + 1 by have := HBL.out; rw [ByteArray.size_append]; show b.size + 1 ≤ m + 1; omega)
                      have hbs : b.size ≤ 1048576 := by have := HBL.out; omega
                      have q1 : (b.size + 1 ≤ 9223372036854775807) = True := eq_true (by omega)
                      have q2 : (9223372036854775807 < b.size + 1) = False := eq_false (by omega)
                      go_wp2_with fail
                      go_roundg (N - (m + 1))
                      case measure => omega
                      case rel => exact ⟨m + 1, _, by omega, by omega, rfl, by go_num, HBL2, ⟨by rw [← HR3.out]; simp⟩, HB7⟩
                    · have HQ := Aside0.mk (show R = none by
                        have := HR2.out
                        rw [if_neg (by decide), if_pos (of_decide_eq_true HBD.out)] at this
                        exact this.symm)
                      go_wp2_with fail
                      go_ret3
                      exact ⟨by rw [HQ.out]; rfl, HB6.out⟩
                · go_upto_region 10 with (go_at_call 29; refine (is_ok t 41 true H41.out (by decide) (by decide) _).mono ?_; rintro e w5 ⟨rfl, hb5⟩; have HB5 := Aside0.mk (HB.out.trans (hb5.mono HB.out.size)); clear hb5)
                  go_cut [67] (fun v67 wc => v67 = .bool (decide (b.size = 0 ∨ 200 < b.size)) ∧ Aside0 (Below w.heap.size w wc))
                  case first =>
                    by_cases hb0 : b.size = 0
                    · have hb1 : b.toList.isEmpty = true := by rw [str_empty0]; exact decide_eq_true hb0
                      have HQ := Aside0.mk (show decide (b.size = 0 ∨ 200 < b.size) = true from decide_eq_true (.inl hb0))
                      clear hb0
                      go_wp2_with fail
                      go_meet
                      case rel => exact ⟨by rw [HQ.out], HB5⟩
                    · have hb1 : b.toList.isEmpty = false := by rw [str_empty0]; exact decide_eq_false hb0
                      have HQ := Aside0.mk (show decide (b.size = 0 ∨ 200 < b.size) = decide (200 < b.size) by simp [hb0])
                      clear hb0
                      by_cases h200 : 200 < b.size
                      · have d1 : decide ((200 : Int) < (b.size : Int)) = true := decide_eq_true (by omega)
                        rw [decide_eq_true h200] at HQ
                        clear h200
                        go_wp2_with fail
                        go_meet
                        case rel => exact ⟨by rw [HQ.out], HB5⟩
                      · have d1 : decide ((200 : Int) < (b.size : Int)) = false := decide_eq_false (by omega)
                        rw [decide_eq_false h200] at HQ
                        clear h200
                        go_wp2_with fail
                        go_meet
                        case rel => exact ⟨by rw [HQ.out], HB5⟩
                  case rest =>
                    clear HB5
                    obtain ⟨rfl, HB6⟩ := hcut
                    by_cases hbl : b.size = 0 ∨ 200 < b.size
                    · have HQ := Aside0.mk (show R = none by
                        have := HR2.out
                        rw [if_pos trivial, if_pos (by simpa using hbl)] at this
                        exact this.symm)
                      rw [decide_eq_true hbl]
                      clear hbl
                      go_wp2_with fail
                      go_ret3
                      exact ⟨by rw [HQ.out]; rfl, HB6.out⟩
                    · have HQ := Aside0.mk (show R = some (b.data.toList, k, m + 1) by
                        have := HR2.out
                        rw [if_pos trivial, if_neg (by simpa using hbl)] at this
                        exact this.symm)
                      rw [decide_eq_false hbl]
                      clear hbl
                      go_wp2_with fail
                      go_ret3
                      exact ⟨by rw [HQ.out]; rfl, HB6.out⟩
              · have HQ := Aside0.mk (show R = none by rw [← HR.out, List.drop_of_length_le (by rw [HN.out]; omega)]; rfl)
                have hkb : decide (m < N) = false := decide_eq_false hlt2
                clear hlt2
                go_wp2_with fail
                go_ret3
                exact ⟨by rw [HQ.out]; rfl, HB.out⟩
      · have HQ := Aside0.mk (show R = none by rw [← HR.out, HD.out, lkS_cons, H91.out]; rfl)
        go_wp2_with (go_at_call 29; refine (is_ok t 91 true H91.out (by decide) (by decide) _).mono ?_; rintro e w5 ⟨rfl, hb5⟩; have HB5 := Aside0.mk (HB.out.trans (hb5.mono HB.out.size)); clear hb5)
        go_ret3
        exact ⟨by rw [HQ.out]; rfl, HB5.out⟩
    · have HQ := Aside0.mk (show R = none by rw [← HR.out, List.drop_of_length_le (by rw [HN.out]; omega)]; rfl)
      have hkN : k = N := by omega
      have hkb : decide (k < N) = false := decide_eq_false hlt
      clear hlt hkN
      go_wp2_with fail
      go_ret3
      exact ⟨by rw [HQ.out]; rfl, HB.out⟩
end Go.Proofs.YtmjdeejccmcpnabDoor.Q
