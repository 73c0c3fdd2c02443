/- attrs: the attributes of the next character. -/
import Derived.Test.YtmjdeejccmcpnabDoorD0
namespace Go.Proofs.YtmjdeejccmcpnabDoor.Q
open Go.RowKit Go.Proofs.YtmjdeejccmcpnabDoorW.PrintWords Go.Proofs.YtmjdeejccmcpnabDoorW.PrintLast Go.Proofs.YtmjdeejccmcpnabDoorW.PrintMore
set_option linter.unusedVariables false
set_option linter.unusedSimpArgs false
theorem info32 : (Tryd.prog.info? 32).map (fun i => (i.zero, i.size, i.bytes)) = some (some (.agg #[.string ⟨#[]⟩, .string ⟨#[]⟩]), 2, 32) := by kernel_rfl
def part (b0 b1 b2 b3 : Bool) : Nat → List (Fin 5)
  | 0 => if b0 then [0] else []
  | 1 => if b1 then [2] else []
  | 2 => if b2 then [4] else []
  | _ => if b3 then [1] else []
def unTo (b0 b1 b2 b3 : Bool) : Nat → List (Fin 5)
  | 0 => []
  | k + 1 => unTo b0 b1 b2 b3 k ++ part b0 b1 b2 b3 k
/-- the attributes in order -/
def ord (b0 b1 b2 b3 k : Bool) : List (Fin 5) := (if b0 then [0] else []) ++ (if b3 then [1] else []) ++ (if b1 then [2] else []) ++ (if k then [3] else []) ++ (if b2 then [4] else [])
theorem ord_perm : ∀ b0 b1 b2 b3 k : Bool, (unTo b0 b1 b2 b3 4 ++ (if k then [3] else [])).Perm (ord b0 b1 b2 b3 k) := by decide
theorem ord_lt : ∀ b0 b1 b2 b3 k : Bool, (ord b0 b1 b2 b3 k).Pairwise (· < ·) := by decide
theorem un_len : ∀ b0 b1 b2 b3 k : Bool, (unTo b0 b1 b2 b3 4 ++ (if k then [3] else [])).length ≤ 5 := by decide
theorem unTo_len : ∀ b0 b1 b2 b3 : Bool, ∀ k : Fin 5, (unTo b0 b1 b2 b3 k).length ≤ 4 := by decide
def hasK (k : ByteArray) : Bool := decide (0 < k.size)
def attrsOf (st : Rdr) : List S32 := (ord st.b0 st.b1 st.b2 st.b3 (hasK st.k)).map (dec5 st.k)
theorem str_empty (s : ByteArray) : s.toList.isEmpty = decide (s.size = 0) := by
  rw [ByteArray.toList_eq, Bool.eq_iff_iff, List.isEmpty_iff, decide_eq_true_iff, ← List.length_eq_zero_iff]
  exact Iff.rfl
attribute [local go_sem] idx84_0 idx84_1 idx84_2 idx84_3
set_option maxHeartbeats 4000000 in
set_option maxRecDepth 100000 in
theorem attrs_ok (B : Nat) (r : Nat) (vo vl : Value) (st : Rdr) (w : World) (hT : Tgl w) (hR : RdV B w r vo vl st) :
    Calls Tryd.prog 43 #[.pointer (some ⟨r, 0, none⟩)] w fun e w' => ∃ v, e = .returned v ∧ Kd.R k32 32 w' w.heap.size (fun _ => True) v (attrsOf st) ∧ Below w.heap.size w w' := by
  obtain ⟨m0, n0, m1, n1, m2, n2, m3, n3⟩ := hT
  have HR := Aside0.mk hR
  go_enter Tryd.func43, Tryd.ntmps43
  go_wp2_with fail
  clear m0 n0 m1 n1 m2 n2 m3 n3 hR
  go_loopg [3, 7] 4 (fun gk v3 v7 wr => ∃ k : Nat, k ≤ 4 ∧ 4 - k ≤ gk ∧ v7 = .int .i64 (k : Int) ∧ Aside0 (Kd.R k32 32 wr w.heap.size (fun _ => True) v3 ((unTo st.b0 st.b1 st.b2 st.b3 k).map (dec5 st.k))) ∧ Aside0 (Below w.heap.size w wr))
  case atStart => exact ⟨0, by omega, by omega, rfl, ⟨Kd.R_nil _ _ _ _ _⟩, ⟨Below.refl _ _⟩⟩
  case round =>
    obtain ⟨k, hk, hgk, rfl, HO, HW⟩ := hrel
    have K : k = 0 ∨ k = 1 ∨ k = 2 ∨ k = 3 ∨ k = 4 := by omega
    rcases K with rfl | rfl | rfl | rfl | rfl
    · go_upto_region 5 with fail
      have HO2 := Aside0.mk (Kd.R_alloc HO.out (.cells #[.string ⟨#[42, 42]⟩, .string ⟨#[98, 111, 108, 100]⟩] 83))
      have HW2 := Aside0.mk (HW.out.alloc HW.out.size (.cells #[.string ⟨#[42, 42]⟩, .string ⟨#[98, 111, 108, 100]⟩] 83))
      have HX2 := Aside0.mk (show (wr.alloc (.cells #[.string ⟨#[42, 42]⟩, .string ⟨#[98, 111, 108, 100]⟩] 83)).heap[wr.heap.size]? = some (.cells #[.string ⟨#[42, 42]⟩, .string ⟨#[98, 111, 108, 100]⟩] 83 (0, 0)) from blk_new _ _)
      obtain ⟨gx, hgx⟩ : ∃ gx, wr.heap.size = gx := ⟨_, rfl⟩
      obtain ⟨w2, h2⟩ : ∃ w2, wr.alloc (.cells #[.string ⟨#[42, 42]⟩, .string ⟨#[98, 111, 108, 100]⟩] 83) = w2 := ⟨_, rfl⟩
      rw [h2] at HO2 HW2 HX2 ⊢
      rw [hgx] at HX2
      simp only [hgx]
      clear h2 hgx HO HW
      have x1 : w2.cell? ⟨gx, 1, none⟩ = some (.string ⟨#[98, 111, 108, 100]⟩) := (blk_cell HX2.out 1).trans rfl
      have r0 := (blk_cell (HR.out.below HW2.out).h 2).trans rfl
      obtain ⟨b, hb⟩ : ∃ b, st.b0 = b := ⟨_, rfl⟩
      have HE := Aside0.mk (show unTo st.b0 st.b1 st.b2 st.b3 (0 + 1) = unTo st.b0 st.b1 st.b2 st.b3 0 ++ (if b then [0] else []) by rw [← hb]; rfl)
      rw [hb] at r0
      clear hb
      cases b
      · go_wp2_with fail
        go_roundg (4 - (0 + 1))
        case measure => omega
        case rel => exact ⟨0 + 1, by omega, by omega, by go_num, ⟨by rw [HE.out]; simpa using HO2.out⟩, HW2⟩
      · have HL := Aside0.mk (show ((unTo st.b0 st.b1 st.b2 st.b3 0).map (dec5 st.k)).length ≤ 4 by rw [List.length_map]; exact unTo_len _ _ _ _ 0)
        obtain ⟨o, ho⟩ : ∃ o, (unTo st.b0 st.b1 st.b2 st.b3 0).map (dec5 st.k) = o := ⟨_, rfl⟩
        have HOO := Aside0.mk ho
        rw [ho] at HO2 HL
        clear ho
        go_wp2_with (at_builtin; refine Kd.R_append k32 (w0 := w) w.heap.size rfl (.tmp 17) (.tmp 21) 28 32 _ 32 rfl Tryd.underlying28 info32 rfl (by decide) (by decide) _ o ⟨⟨#[98, 111, 108, 100]⟩, ⟨#[111, 110]⟩⟩ [.string ⟨#[98, 111, 108, 100]⟩, .string ⟨#[111, 110]⟩] (fun _ => True) (fun _ => False) rfl rfl (k32_mkM _ _ _ _) (fun _ h => h.elim) (fun _ _ => trivial) HO2.out HW2.out HW2.out.size (by have := HL.out; omega) ?_; intro v3 w4 ho4 hb4 hg4 hat4; have HO4 := Aside0.mk ho4; have HW4 := Aside0.mk hb4; clear ho4 hb4 hg4 hat4)
        go_roundg (4 - (0 + 1))
        case measure => omega
        case rel => exact ⟨0 + 1, by omega, by omega, by go_num, ⟨by rw [HE.out, List.map_append, HOO.out]; exact HO4.out⟩, HW4⟩
    · go_upto_region 5 with fail
      have HO2 := Aside0.mk (Kd.R_alloc HO.out (.cells #[.string ⟨#[42]⟩, .string ⟨#[105, 116, 97, 108, 105, 99]⟩] 83))
      have HW2 := Aside0.mk (HW.out.alloc HW.out.size (.cells #[.string ⟨#[42]⟩, .string ⟨#[105, 116, 97, 108, 105, 99]⟩] 83))
      have HX2 := Aside0.mk (show (wr.alloc (.cells #[.string ⟨#[42]⟩, .string ⟨#[105, 116, 97, 108, 105, 99]⟩] 83)).heap[wr.heap.size]? = some (.cells #[.string ⟨#[42]⟩, .string ⟨#[105, 116, 97, 108, 105, 99]⟩] 83 (0, 0)) from blk_new _ _)
      obtain ⟨gx, hgx⟩ : ∃ gx, wr.heap.size = gx := ⟨_, rfl⟩
      obtain ⟨w2, h2⟩ : ∃ w2, wr.alloc (.cells #[.string ⟨#[42]⟩, .string ⟨#[105, 116, 97, 108, 105, 99]⟩] 83) = w2 := ⟨_, rfl⟩
      rw [h2] at HO2 HW2 HX2 ⊢
      rw [hgx] at HX2
      simp only [hgx]
      clear h2 hgx HO HW
      have x1 : w2.cell? ⟨gx, 1, none⟩ = some (.string ⟨#[105, 116, 97, 108, 105, 99]⟩) := (blk_cell HX2.out 1).trans rfl
      have r1 := (blk_cell (HR.out.below HW2.out).h 3).trans rfl
      obtain ⟨b, hb⟩ : ∃ b, st.b1 = b := ⟨_, rfl⟩
      have HE := Aside0.mk (show unTo st.b0 st.b1 st.b2 st.b3 (1 + 1) = unTo st.b0 st.b1 st.b2 st.b3 1 ++ (if b then [2] else []) by rw [← hb]; rfl)
      rw [hb] at r1
      clear hb
      cases b
      · go_wp2_with fail
        go_roundg (4 - (1 + 1))
        case measure => omega
        case rel => exact ⟨1 + 1, by omega, by omega, by go_num, ⟨by rw [HE.out]; simpa using HO2.out⟩, HW2⟩
      · have HL := Aside0.mk (show ((unTo st.b0 st.b1 st.b2 st.b3 1).map (dec5 st.k)).length ≤ 4 by rw [List.length_map]; exact unTo_len _ _ _ _ 1)
        obtain ⟨o, ho⟩ : ∃ o, (unTo st.b0 st.b1 st.b2 st.b3 1).map (dec5 st.k) = o := ⟨_, rfl⟩
        have HOO := Aside0.mk ho
        rw [ho] at HO2 HL
        clear ho
        go_wp2_with (at_builtin; refine Kd.R_append k32 (w0 := w) w.heap.size rfl (.tmp 17) (.tmp 21) 28 32 _ 32 rfl Tryd.underlying28 info32 rfl (by decide) (by decide) _ o ⟨⟨#[105, 116, 97, 108, 105, 99]⟩, ⟨#[111, 110]⟩⟩ [.string ⟨#[105, 116, 97, 108, 105, 99]⟩, .string ⟨#[111, 110]⟩] (fun _ => True) (fun _ => False) rfl rfl (k32_mkM _ _ _ _) (fun _ h => h.elim) (fun _ _ => trivial) HO2.out HW2.out HW2.out.size (by have := HL.out; omega) ?_; intro v3 w4 ho4 hb4 hg4 hat4; have HO4 := Aside0.mk ho4; have HW4 := Aside0.mk hb4; clear ho4 hb4 hg4 hat4)
        go_roundg (4 - (1 + 1))
        case measure => omega
        case rel => exact ⟨1 + 1, by omega, by omega, by go_num, ⟨by rw [HE.out, List.map_append, HOO.out]; exact HO4.out⟩, HW4⟩
    · go_upto_region 5 with fail
      have HO2 := Aside0.mk (Kd.R_alloc HO.out (.cells #[.string ⟨#[126, 126]⟩, .string ⟨#[115, 116, 114, 105, 107, 101]⟩] 83))
      have HW2 := Aside0.mk (HW.out.alloc HW.out.size (.cells #[.string ⟨#[126, 126]⟩, .string ⟨#[115, 116, 114, 105, 107, 101]⟩] 83))
      have HX2 := Aside0.mk (show (wr.alloc (.cells #[.string ⟨#[126, 126]⟩, .string ⟨#[115, 116, 114, 105, 107, 101]⟩] 83)).heap[wr.heap.size]? = some (.cells #[.string ⟨#[126, 126]⟩, .string ⟨#[115, 116, 114, 105, 107, 101]⟩] 83 (0, 0)) from blk_new _ _)
      obtain ⟨gx, hgx⟩ : ∃ gx, wr.heap.size = gx := ⟨_, rfl⟩
      obtain ⟨w2, h2⟩ : ∃ w2, wr.alloc (.cells #[.string ⟨#[126, 126]⟩, .string ⟨#[115, 116, 114, 105, 107, 101]⟩] 83) = w2 := ⟨_, rfl⟩
      rw [h2] at HO2 HW2 HX2 ⊢
      rw [hgx] at HX2
      simp only [hgx]
      clear h2 hgx HO HW
      have x1 : w2.cell? ⟨gx, 1, none⟩ = some (.string ⟨#[115, 116, 114, 105, 107, 101]⟩) := (blk_cell HX2.out 1).trans rfl
      have r2 := (blk_cell (HR.out.below HW2.out).h 4).trans rfl
      obtain ⟨b, hb⟩ : ∃ b, st.b2 = b := ⟨_, rfl⟩
      have HE := Aside0.mk (show unTo st.b0 st.b1 st.b2 st.b3 (2 + 1) = unTo st.b0 st.b1 st.b2 st.b3 2 ++ (if b then [4] else []) by rw [← hb]; rfl)
      rw [hb] at r2
      clear hb
      cases b
      · go_wp2_with fail
        go_roundg (4 - (2 + 1))
        case measure => omega
        case rel => exact ⟨2 + 1, by omega, by omega, by go_num, ⟨by rw [HE.out]; simpa using HO2.out⟩, HW2⟩
      · have HL := Aside0.mk (show ((unTo st.b0 st.b1 st.b2 st.b3 2).map (dec5 st.k)).length ≤ 4 by rw [List.length_map]; exact unTo_len _ _ _ _ 2)
        obtain ⟨o, ho⟩ : ∃ o, (unTo st.b0 st.b1 st.b2 st.b3 2).map (dec5 st.k) = o := ⟨_, rfl⟩
        have HOO := Aside0.mk ho
        rw [ho] at HO2 HL
        clear ho
        go_wp2_with (at_builtin; refine Kd.R_append k32 (w0 := w) w.heap.size rfl (.tmp 17) (.tmp 21) 28 32 _ 32 rfl Tryd.underlying28 info32 rfl (by decide) (by decide) _ o ⟨⟨#[115, 116, 114, 105, 107, 101]⟩, ⟨#[111, 110]⟩⟩ [.string ⟨#[115, 116, 114, 105, 107, 101]⟩, .string ⟨#[111, 110]⟩] (fun _ => True) (fun _ => False) rfl rfl (k32_mkM _ _ _ _) (fun _ h => h.elim) (fun _ _ => trivial) HO2.out HW2.out HW2.out.size (by have := HL.out; omega) ?_; intro v3 w4 ho4 hb4 hg4 hat4; have HO4 := Aside0.mk ho4; have HW4 := Aside0.mk hb4; clear ho4 hb4 hg4 hat4)
        go_roundg (4 - (2 + 1))
        case measure => omega
        case rel => exact ⟨2 + 1, by omega, by omega, by go_num, ⟨by rw [HE.out, List.map_append, HOO.out]; exact HO4.out⟩, HW4⟩
    · go_upto_region 5 with fail
      have HO2 := Aside0.mk (Kd.R_alloc HO.out (.cells #[.string ⟨#[96]⟩, .string ⟨#[102, 105, 120, 101, 100]⟩] 83))
      have HW2 := Aside0.mk (HW.out.alloc HW.out.size (.cells #[.string ⟨#[96]⟩, .string ⟨#[102, 105, 120, 101, 100]⟩] 83))
      have HX2 := Aside0.mk (show (wr.alloc (.cells #[.string ⟨#[96]⟩, .string ⟨#[102, 105, 120, 101, 100]⟩] 83)).heap[wr.heap.size]? = some (.cells #[.string ⟨#[96]⟩, .string ⟨#[102, 105, 120, 101, 100]⟩] 83 (0, 0)) from blk_new _ _)
      obtain ⟨gx, hgx⟩ : ∃ gx, wr.heap.size = gx := ⟨_, rfl⟩
      obtain ⟨w2, h2⟩ : ∃ w2, wr.alloc (.cells #[.string ⟨#[96]⟩, .string ⟨#[102, 105, 120, 101, 100]⟩] 83) = w2 := ⟨_, rfl⟩
      rw [h2] at HO2 HW2 HX2 ⊢
      rw [hgx] at HX2
      simp only [hgx]
      clear h2 hgx HO HW
      have x1 : w2.cell? ⟨gx, 1, none⟩ = some (.string ⟨#[102, 105, 120, 101, 100]⟩) := (blk_cell HX2.out 1).trans rfl
      have r3 := (blk_cell (HR.out.below HW2.out).h 5).trans rfl
      obtain ⟨b, hb⟩ : ∃ b, st.b3 = b := ⟨_, rfl⟩
      have HE := Aside0.mk (show unTo st.b0 st.b1 st.b2 st.b3 (3 + 1) = unTo st.b0 st.b1 st.b2 st.b3 3 ++ (if b then [1] else []) by rw [← hb]; rfl)
      rw [hb] at r3
      clear hb
      cases b
      · go_wp2_with fail
        go_roundg (4 - (3 + 1))
        case measure => omega
        case rel => exact ⟨3 + 1, by omega, by omega, by go_num, ⟨by rw [HE.out]; simpa using HO2.out⟩, HW2⟩
      · have HL := Aside0.mk (show ((unTo st.b0 st.b1 st.b2 st.b3 3).map (dec5 st.k)).length ≤ 4 by rw [List.length_map]; exact unTo_len _ _ _ _ 3)
        obtain ⟨o, ho⟩ : ∃ o, (unTo st.b0 st.b1 st.b2 st.b3 3).map (dec5 st.k) = o := ⟨_, rfl⟩
        have HOO := Aside0.mk ho
        rw [ho] at HO2 HL
        clear ho
        go_wp2_with (at_builtin; refine Kd.R_append k32 (w0 := w) w.heap.size rfl (.tmp 17) (.tmp 21) 28 32 _ 32 rfl Tryd.underlying28 info32 rfl (by decide) (by decide) _ o ⟨⟨#[102, 105, 120, 101, 100]⟩, ⟨#[111, 110]⟩⟩ [.string ⟨#[102, 105, 120, 101, 100]⟩, .string ⟨#[111, 110]⟩] (fun _ => True) (fun _ => False) rfl rfl (k32_mkM _ _ _ _) (fun _ h => h.elim) (fun _ _ => trivial) HO2.out HW2.out HW2.out.size (by have := HL.out; omega) ?_; intro v3 w4 ho4 hb4 hg4 hat4; have HO4 := Aside0.mk ho4; have HW4 := Aside0.mk hb4; clear ho4 hb4 hg4 hat4)
        go_roundg (4 - (3 + 1))
        case measure => omega
        case rel => exact ⟨3 + 1, by omega, by omega, by go_num, ⟨by rw [HE.out, List.map_append, HOO.out]; exact HO4.out⟩, HW4⟩
    · have r6 : wr.cell? ⟨r, 6, none⟩ = some (.string st.k) := (blk_cell (HR.out.below HW.out).h 6).trans rfl
      obtain ⟨kk, hkk⟩ : ∃ kk, st.k = kk := ⟨_, rfl⟩
      have HA := Aside0.mk (show attrsOf st = (ord st.b0 st.b1 st.b2 st.b3 (hasK kk)).map (dec5 kk) by rw [← hkk]; rfl)
      rw [hkk] at r6 HO
      have HKK := Aside0.mk hkk
      clear hkk
      have HL := Aside0.mk (show ((unTo st.b0 st.b1 st.b2 st.b3 4).map (dec5 kk)).length ≤ 4 by rw [List.length_map]; exact unTo_len _ _ _ _ 4)
      by_cases hk0 : kk.size = 0
      · have hb1 : kk.toList.isEmpty = true := by rw [str_empty, hk0]; rfl
        have hh : hasK kk = false := decide_eq_false (by omega)
        have HO2 := Aside0.mk (show Kd.R k32 32 wr w.heap.size (fun _ => True) u3 ((unTo st.b0 st.b1 st.b2 st.b3 4 ++ (if hasK kk then [3] else [])).map (dec5 kk)) by rw [hh]; simpa using HO.out)
        clear hk0 hh HO
        go_wp2_with (go_at_call 55; refine (sort5 kk _ _ (ord_perm _ _ _ _ _) (ord_lt _ _ _ _ _) (un_len _ _ _ _ _) _ w _ _ HO2.out HW.out HW.out.size).mono ?_; rintro e w5 ⟨rfl, hO5, hW5⟩; have HO5 := Aside0.mk hO5; have HW5 := Aside0.mk hW5; clear hO5 hW5)
        go_ret
        exact ⟨_, rfl, by rw [HA.out]; exact HO5.out, HW5.out⟩
      · have hb1 : kk.toList.isEmpty = false := by rw [str_empty]; exact decide_eq_false hk0
        have hh : hasK kk = true := decide_eq_true (by omega)
        have HH := Aside0.mk hh
        clear hk0 hh
        obtain ⟨o, ho⟩ : ∃ o, (unTo st.b0 st.b1 st.b2 st.b3 4).map (dec5 kk) = o := ⟨_, rfl⟩
        have HOO := Aside0.mk ho
        rw [ho] at HO HL
        clear ho
        go_wp2_with (first
          | (at_builtin; refine Kd.R_append k32 (w0 := w) w.heap.size rfl (.tmp 29) (.tmp 35) 28 32 _ 32 rfl Tryd.underlying28 info32 rfl (by decide) (by decide) _ o ⟨⟨#[108, 105, 110, 107]⟩, kk⟩ [.string ⟨#[108, 105, 110, 107]⟩, .string kk] (fun _ => True) (fun _ => False) rfl rfl (k32_mkM _ _ _ _) (fun _ h => h.elim) (fun _ _ => trivial) HO.out HW.out HW.out.size (by have := HL.out; omega) ?_; intro v3 w4 ho4 hb4 hg4 hat4; have HO4 := Aside0.mk (show Kd.R k32 32 w4 w.heap.size (fun _ => True) v3 ((unTo st.b0 st.b1 st.b2 st.b3 4 ++ (if hasK kk then [3] else [])).map (dec5 kk)) by rw [HH.out, List.map_append, HOO.out]; exact ho4); have HW4 := Aside0.mk hb4; clear ho4 hb4 hg4 hat4)
          | (go_at_call 55; refine (sort5 kk _ _ (ord_perm _ _ _ _ _) (ord_lt _ _ _ _ _) (un_len _ _ _ _ _) _ w _ _ HO4.out HW4.out HW4.out.size).mono ?_; rintro e w5 ⟨rfl, hO5, hW5⟩; have HO5 := Aside0.mk hO5; have HW5 := Aside0.mk hW5; clear hO5 hW5))
        go_ret
        exact ⟨_, rfl, by rw [HA.out]; exact HO5.out, HW5.out⟩
end Go.Proofs.YtmjdeejccmcpnabDoor.Q
