/- target: where a link's text ends, and its address: in plain words, and the walk. -/
import Derived.Test.YtmjdeejccmcpnabDoorA0
namespace Go.Proofs.YtmjdeejccmcpnabDoor.Q
open Go.RowKit Go.Proofs.YtmjdeejccmcpnabDoorW.PrintWords Go.Proofs.YtmjdeejccmcpnabDoorW.PrintLast Go.Proofs.YtmjdeejccmcpnabDoorW.PrintMore
set_option linter.unusedVariables false
set_option linter.unusedSimpArgs false
/-- the place of a link's ]( -/
def scan : List UInt8 → Nat → Option Nat
  | [], _ => none
  | c :: r, at_ => if c.toNat = 91 then none else if c.toNat = 92 then (match r with | [] => none | _ :: r' => scan r' (at_ + 2)) else if Lib.hasPrefix (c :: r) [93, 40] = true then some at_ else scan r (at_ + 1)
theorem scan_nil (a : Nat) : scan [] a = none := by unfold scan; rfl
theorem scan_cons (c : UInt8) (r : List UInt8) (a : Nat) : scan (c :: r) a = if c.toNat = 91 then none else if c.toNat = 92 then scan (r.drop 1) (a + 2) else if Lib.hasPrefix (c :: r) [93, 40] = true then some a else scan r (a + 1) := by
  conv => lhs; unfold scan
  cases r <;> simp [scan_nil]
/-- a link's address, and the place behind its ) -/
def dest : List UInt8 → Nat → List UInt8 → Option (List UInt8 × Nat)
  | [], _, _ => none
  | c :: r, i, b => if 200 < b.length then none else if c.toNat = 41 then some (b, i + 1) else if c.toNat = 92 then (match r with | [] => none | c' :: r' => if c'.toNat < 32 ∨ 126 < c'.toNat then none else dest r' (i + 2) (b ++ [c'])) else if c.toNat < 32 ∨ 126 < c.toNat then none else dest r (i + 1) (b ++ [c])
def targetO (l : List UInt8) : Option (List UInt8 × Nat × Nat) :=
  match scan l 0 with
  | none => none
  | some a => match dest (l.drop (a + 2)) (a + 2) [] with
    | none => none
    | some (b, e) => some (b, a, e)
def targetV (l : List UInt8) : Value :=
  match targetO l with
  | none => .tuple #[.string ⟨#[]⟩, .int .i64 0, .int .i64 0, .bool false]
  | some (b, a, e) => .tuple #[.string ⟨b.toArray⟩, .int .i64 (a : Int), .int .i64 (e : Int), .bool (decide (0 < b.length))]
theorem ext_list (s : ByteArray) (k : Nat) : (s.extract k s.size).data.toList = s.data.toList.drop k := by
  have h : (s.extract k s.size).data = s.data.extract k s.size := by simp
  rw [h, Array.toList_extract]
  simp only [List.extract_eq_take_drop]
  exact List.take_of_length_le (by simp)
theorem drop_cons (s : ByteArray) (k : Nat) (h : k < s.size) : s.data.toList.drop k = s[k] :: s.data.toList.drop (k + 1) := by
  have h' : k < s.data.toList.length := by simpa using h
  rw [List.drop_eq_getElem_cons h']
  rfl
theorem drop_nil (s : ByteArray) (k : Nat) (h : s.size ≤ k) : s.data.toList.drop k = [] := List.drop_eq_nil_of_le (by simpa using h)
theorem dest_nil (i : Nat) (b : List UInt8) : dest [] i b = none := by unfold dest; rfl
theorem dest_cons (c : UInt8) (r : List UInt8) (i : Nat) (b : List UInt8) : dest (c :: r) i b = if 200 < b.length then none else if c.toNat = 41 then some (b, i + 1) else if c.toNat = 92 then (match r with | [] => none | c' :: r' => if c'.toNat < 32 ∨ 126 < c'.toNat then none else dest r' (i + 2) (b ++ [c'])) else if c.toNat < 32 ∨ 126 < c.toNat then none else dest r (i + 1) (b ++ [c]) := by
  conv => lhs; unfold dest
theorem hasPrefix_ext (s p : ByteArray) (k : Nat) (b : Bool) (w : World) (h : Lib.hasPrefix (s.data.toList.drop k) p.data.toList = b) :
    Calls Tryd.prog 23 #[.string (s.extract k s.size), .string p] w fun e w' => e = .returned (.bool b) ∧ w' = w := by
  have := Tryd.strings_HasPrefix (s.extract k s.size) p w
  rw [ext_list, h] at this
  exact this
theorem builder_new (w : World) : Lib.IsBuilder 87 5 w.heap.size w.heap.size [] (w.alloc (.cells #[.pointer none, .slice none 0 0] 87)) :=
  .inl ⟨Nat.le_refl _, _, blk_new _ _, ⟨rfl, .inl ⟨rfl, rfl⟩⟩, by simp [Value.ownBlock]⟩
theorem byteCells_length (bs : List UInt8) : (Lib.byteCells bs).length = bs.length := by unfold Lib.byteCells; simp
theorem byteCells_snoc (bs : List UInt8) (c : UInt8) : Lib.byteCells (bs ++ [c]) = Lib.byteCells bs ++ [.int .u8 (c.toNat : Int)] := by unfold Lib.byteCells; simp
theorem lenB (B b : Nat) (bs : List UInt8) (w : World) (h : Lib.IsBuilder 87 5 B b (Lib.byteCells bs) w) :
    Calls Tryd.prog 44 #[.pointer (some ⟨b, 0, none⟩)] w fun e w' => e = .returned (.int .i64 (bs.length : Int)) ∧ w' = w := by
  have := Tryd.Builder_Len B b (Lib.byteCells bs) w h
  rw [byteCells_length] at this
  exact this
theorem lenF (B b : Nat) (bs : List UInt8) (w : World) (h : Lib.IsBuilderF 87 5 B b (Lib.byteCells bs) w) :
    Calls Tryd.prog 44 #[.pointer (some ⟨b, 0, none⟩)] w fun e w' => e = .returned (.int .i64 (bs.length : Int)) ∧ w' = w := by
  have := Tryd.Builder_Len_f B b (Lib.byteCells bs) w h
  rw [byteCells_length] at this
  exact this
theorem writeB (B b : Nat) (bs : List UInt8) (c : UInt8) (x : Int) (hx : (c.toNat : Int) = x) (w : World) (h : Lib.IsBuilder 87 5 B b (Lib.byteCells bs) w) (hlen : bs.length ≤ 201) (hBw : B ≤ w.heap.size) :
    Calls Tryd.prog 46 #[.pointer (some ⟨b, 0, none⟩), .int .u8 x] w fun e w' => e = .returned .nilIface ∧ (Lib.IsBuilder 87 5 B b (Lib.byteCells (bs ++ [c])) w' ∧ Below B w w') := by
  subst hx
  rw [byteCells_snoc]
  exact writeByte B b _ _ w h (by rw [byteCells_length]; omega) hBw
theorem results_tmp4 {fn : Func} {t u v x : Tmp} (h : fn.results = #[.tmp t, .tmp u, .tmp v, .tmp x]) (tmps : Array Value) (P : Program) (w : World) :
    (results fn tmps).run P w = .ok (.tuple #[tmps.getD t undef, tmps.getD u undef, tmps.getD v undef, tmps.getD x undef]) w := by
  simp [results, h]
set_option maxHeartbeats 4000000 in
set_option maxRecDepth 100000 in
theorem target_ok (s : ByteArray) (w : World) (hs : s.size < 4294967281) :
    Calls Tryd.prog 27 #[.string s] w fun e w' => e = .returned (targetV s.data.toList) ∧ Below w.heap.size w w' := by
  go_enter Tryd.func27, Tryd.ntmps27
  go_wp2_with fail
  go_loopg [6] (s.size + 1) (fun gk v6 wr => ∃ k : Nat, k ≤ s.size + 1 ∧ s.size + 1 - k ≤ gk ∧ v6 = .int .i64 (k : Int) ∧ wr = w ∧ Aside0 (scan s.data.toList 0 = scan (s.data.toList.drop k) k))
  case atStart => exact ⟨0, by omega, by omega, rfl, rfl, ⟨rfl⟩⟩
  case round =>
    obtain ⟨k, hk, hgk, rfl, rfl, HS⟩ := hrel
    by_cases hlt : k < s.size
    · have hge : decide ((s.size : Int) ≤ (k : Int)) = false := decide_eq_false (by omega)
      have HL := Aside0.mk (drop_cons s k hlt)
      obtain ⟨c, hc⟩ : ∃ c, ((s[k]'hlt).toNat : Int) = c := ⟨_, rfl⟩
      have HCB := Aside0.mk hc
      have q0 : ((k : Int) < (s.size : Int)) = True := eq_true (by omega)
      by_cases c91 : c = 91
      · have HN := Aside0.mk (show targetV s.data.toList = .tuple #[.string ⟨#[]⟩, .int .i64 0, .int .i64 0, .bool false] by
          unfold targetV targetO
          rw [HS.out, HL.out, scan_cons, if_pos (by have := HCB.out; omega)])
        have cb : (c == 91) = true := beq_iff_eq.2 c91
        clear c91
        go_wp2_with fail
        (try simp only [Exit.inBlock, Exit.then])
        refine bodyPost_ret (results_tmp4 rfl _ _ _) rfl ?_
        exact ⟨by rw [HN.out]; rfl, Below.refl _ _⟩
      · have cb : (c == 91) = false := beq_eq_false_iff_ne.2 c91
        have HC91 := Aside0.mk c91
        clear c91
        by_cases c92 : c = 92
        · have HN := Aside0.mk (show scan (s.data.toList.drop k) k = scan (s.data.toList.drop (k + 2)) (k + 2) by
            rw [HL.out, scan_cons, if_neg (by have := HCB.out; have := HC91.out; omega), if_pos (by have := HCB.out; omega), List.drop_drop])
          have cb2 : (c == 92) = true := beq_iff_eq.2 c92
          clear c92
          go_wp2_with fail
          go_roundg (s.size + 1 - (k + 2))
          case measure => omega
          case rel => exact ⟨k + 2, by omega, by omega, by go_num, rfl, ⟨by rw [HS.out, HN.out]⟩⟩
        · have cb2 : (c == 92) = false := beq_eq_false_iff_ne.2 c92
          have HC92 := Aside0.mk c92
          clear c92
          obtain ⟨hp, hhp⟩ : ∃ b, Lib.hasPrefix (s.data.toList.drop k) [93, 40] = b := ⟨_, rfl⟩
          have HHP := Aside0.mk hhp
          clear hhp
          have hle : (k : Int) ≤ (s.size : Int) := by omega
          cases hp
          · have HN := Aside0.mk (show scan (s.data.toList.drop k) k = scan (s.data.toList.drop (k + 1)) (k + 1) by
              have hh := HHP.out
              rw [HL.out] at hh ⊢
              rw [scan_cons, if_neg (by have := HCB.out; have := HC91.out; omega), if_neg (by have := HCB.out; have := HC92.out; omega), if_neg (by rw [hh]; decide)])
            go_wp2_with (go_at_call 23; refine (hasPrefix_ext s ⟨#[93, 40]⟩ k false _ HHP.out).mono ?_; rintro e w' ⟨rfl, rfl⟩)
            go_roundg (s.size + 1 - (k + 1))
            case measure => omega
            case rel => exact ⟨k + 1, by omega, by omega, by go_num, rfl, ⟨by rw [HS.out, HN.out]⟩⟩
          · have HN := Aside0.mk (show scan s.data.toList 0 = some k by
              have hh := HHP.out
              rw [HS.out]
              rw [HL.out] at hh ⊢
              rw [scan_cons, if_neg (by have := HCB.out; have := HC91.out; omega), if_neg (by have := HCB.out; have := HC92.out; omega), if_pos hh])
            go_wp2_with (go_at_call 23; refine (hasPrefix_ext s ⟨#[93, 40]⟩ k true _ HHP.out).mono ?_; rintro e w' ⟨rfl, rfl⟩)
            have HK := Aside0.mk hlt
            clear HS hgk q0 hge cb cb2 hc HCB HC91 HC92 HL HHP hle hk hlt
            go_loopg [8] (s.size + 2) (fun gi v8 wi => ∃ (i : Nat) (bs : List UInt8), i ≤ s.size + 1 ∧ s.size + 2 - i ≤ gi ∧ v8 = .int .i64 (i : Int) ∧ Aside0 (bs.length ≤ 201 ∧ dest (s.data.toList.drop (k + 2)) (k + 2) [] = dest (s.data.toList.drop i) i bs) ∧ Aside0 (Lib.IsBuilder 87 5 w'.heap.size w'.heap.size (Lib.byteCells bs) wi) ∧ Aside0 (Below w'.heap.size w' wi))
            case atStart => exact ⟨k + 2, [], by have := HK.out; omega, by omega, by go_num, ⟨by simp, rfl⟩, ⟨builder_new _⟩, ⟨below_alloc (Below.refl _ _) _⟩⟩
            case round =>
              obtain ⟨i, bs, hi, hgi, rfl, HD, HB, HW⟩ := hrel
              have FAIL := Aside0.mk (show dest (s.data.toList.drop i) i bs = none → targetV s.data.toList = .tuple #[.string ⟨#[]⟩, .int .i64 0, .int .i64 0, .bool false] from fun h => by
                unfold targetV targetO
                rw [HN.out]
                simp only [HD.out.2, h])
              by_cases hlt : i < s.size
              · have hge : decide ((i : Int) < (s.size : Int)) = true := decide_eq_true (by omega)
                have q0 : ((i : Int) < (s.size : Int)) = True := eq_true (by omega)
                have HL := Aside0.mk (drop_cons s i hlt)
                obtain ⟨c, hc⟩ : ∃ c, ((s[i]'hlt).toNat : Int) = c := ⟨_, rfl⟩
                have HCB := Aside0.mk hc
                by_cases h200 : 200 < bs.length
                · have hb200 : decide ((bs.length : Int) ≤ 200) = false := decide_eq_false (by omega)
                  have HX := Aside0.mk (show dest (s.data.toList.drop i) i bs = none by rw [HL.out, dest_cons, if_pos h200])
                  clear h200
                  go_wp2_with (go_at_call 44; refine (lenB _ _ bs _ HB.out).mono ?_; rintro e w2 ⟨rfl, rfl⟩)
                  (try simp only [Exit.inBlock, Exit.then])
                  refine bodyPost_ret (results_tmp4 rfl _ _ _) rfl ?_
                  exact ⟨by rw [FAIL.out HX.out]; rfl, HW.out⟩
                · have hb200 : decide ((bs.length : Int) ≤ 200) = true := decide_eq_true (by omega)
                  have H200 := Aside0.mk h200
                  clear h200
                  by_cases c41 : c = 41
                  · have HX := Aside0.mk (show targetV s.data.toList = .tuple #[.string ⟨bs.toArray⟩, .int .i64 (k : Int), .int .i64 ((i + 1 : Nat) : Int), .bool (decide (0 < bs.length))] by
                      unfold targetV targetO
                      rw [HN.out]
                      simp only [HD.out.2]
                      rw [HL.out, dest_cons, if_neg H200.out, if_pos (by have := HCB.out; omega)])
                    have cb : (c == 41) = true := beq_iff_eq.2 c41
                    clear c41
                    go_wp2_with (first | (go_at_call 44; refine (lenB _ _ bs _ HB.out).mono ?_; rintro e w2 ⟨rfl, rfl⟩) | (go_at_call 45; refine (Tryd.Builder_String_any_k _ _ bs _ (Lib.IsBuilderF.of HB.out) HW.out.size).mono ?_; rintro e w3 ⟨rfl, hB3, hb3, _⟩; have HB3 := Aside0.mk hB3; have HW3 := Aside0.mk (HW.out.trans hb3); clear hB3 hb3) | (go_at_call 44; refine (lenF _ _ bs _ HB3.out).mono ?_; rintro e w4 ⟨rfl, rfl⟩))
                    (try simp only [Exit.inBlock, Exit.then])
                    refine bodyPost_ret (results_tmp4 rfl _ _ _) rfl ?_
                    exact ⟨by rw [HX.out]; rfl, HW3.out⟩
                  · have cb : (c == 41) = false := beq_eq_false_iff_ne.2 c41
                    have HC41 := Aside0.mk c41
                    clear c41
                    by_cases c92 : c = 92
                    · have cb2 : (c == 92) = true := beq_iff_eq.2 c92
                      have HC92 := Aside0.mk c92
                      by_cases hl2 : i + 1 < s.size
                      · have hge2 : decide (((i : Int) + 1) < (s.size : Int)) = true := decide_eq_true (by omega)
                        have q1 : (((i : Int) + 1) < (s.size : Int)) = True := eq_true (by omega)
                        have HL2 := Aside0.mk (drop_cons s (i + 1) hl2)
                        obtain ⟨d, hd⟩ : ∃ d, ((s[i + 1]'hl2).toNat : Int) = d := ⟨_, rfl⟩
                        have HDB := Aside0.mk hd
                        have HE := Aside0.mk (show dest (s.data.toList.drop i) i bs = if (s[i + 1]'hl2).toNat < 32 ∨ 126 < (s[i + 1]'hl2).toNat then none else dest (s.data.toList.drop (i + 2)) (i + 2) (bs ++ [s[i + 1]'hl2]) by
                          rw [HL.out, dest_cons, if_neg H200.out, if_neg (by have := HCB.out; have := HC41.out; omega), if_pos (by have := HCB.out; have := HC92.out; omega), HL2.out])
                        by_cases d32 : d < 32
                        · have db : decide (d < 32) = true := decide_eq_true d32
                          have HX := Aside0.mk (show dest (s.data.toList.drop i) i bs = none by rw [HE.out, if_pos (by have := HDB.out; omega)])
                          clear d32 c92
                          go_wp2_with (go_at_call 44; refine (lenB _ _ bs _ HB.out).mono ?_; rintro e w2 ⟨rfl, rfl⟩)
                          (try simp only [Exit.inBlock, Exit.then])
                          refine bodyPost_ret (results_tmp4 rfl _ _ _) rfl ?_
                          exact ⟨by rw [FAIL.out HX.out]; rfl, HW.out⟩
                        · have db : decide (d < 32) = false := decide_eq_false d32
                          by_cases d126 : 126 < d
                          · have db2 : decide (126 < d) = true := decide_eq_true d126
                            have HX := Aside0.mk (show dest (s.data.toList.drop i) i bs = none by rw [HE.out, if_pos (by have := HDB.out; omega)])
                            clear d32 c92 d126
                            go_wp2_with (go_at_call 44; refine (lenB _ _ bs _ HB.out).mono ?_; rintro e w2 ⟨rfl, rfl⟩)
                            (try simp only [Exit.inBlock, Exit.then])
                            refine bodyPost_ret (results_tmp4 rfl _ _ _) rfl ?_
                            exact ⟨by rw [FAIL.out HX.out]; rfl, HW.out⟩
                          · have db2 : decide (126 < d) = false := decide_eq_false d126
                            have HX := Aside0.mk (show dest (s.data.toList.drop i) i bs = dest (s.data.toList.drop (i + 2)) (i + 2) (bs ++ [s[i + 1]'hl2]) by rw [HE.out, if_neg (by have := HDB.out; omega)])
                            clear d32 c92 d126
                            go_wp2_with (first | (go_at_call 44; refine (lenB _ _ bs _ HB.out).mono ?_; rintro e w2 ⟨rfl, rfl⟩) | (go_at_call 46; refine (writeB _ _ bs _ _ HDB.out _ HB.out HD.out.1 HW.out.size).mono ?_; rintro e w3 ⟨rfl, hB3, hb3⟩; have HB3 := Aside0.mk hB3; have HW3 := Aside0.mk (HW.out.trans hb3); clear hB3 hb3))
                            go_roundg (s.size + 2 - (i + 2))
                            case measure => omega
                            case rel => exact ⟨i + 2, bs ++ [s[i + 1]'hl2], by omega, by omega, by go_num, ⟨by have := H200.out; simp; omega, by rw [HD.out.2, HX.out]⟩, HB3, HW3⟩
                      · have hge2 : decide (((i : Int) + 1) < (s.size : Int)) = false := decide_eq_false (by omega)
                        have HX := Aside0.mk (show dest (s.data.toList.drop i) i bs = none by
                          rw [HL.out, dest_cons, if_neg H200.out, if_neg (by have := HCB.out; have := HC41.out; omega), if_pos (by have := HCB.out; have := HC92.out; omega), drop_nil s (i + 1) (by omega)])
                        clear c92
                        go_wp2_with (go_at_call 44; refine (lenB _ _ bs _ HB.out).mono ?_; rintro e w2 ⟨rfl, rfl⟩)
                        (try simp only [Exit.inBlock, Exit.then])
                        refine bodyPost_ret (results_tmp4 rfl _ _ _) rfl ?_
                        exact ⟨by rw [FAIL.out HX.out]; rfl, HW.out⟩
                    · have cb2 : (c == 92) = false := beq_eq_false_iff_ne.2 c92
                      have HE := Aside0.mk (show dest (s.data.toList.drop i) i bs = if (s[i]'hlt).toNat < 32 ∨ 126 < (s[i]'hlt).toNat then none else dest (s.data.toList.drop (i + 1)) (i + 1) (bs ++ [s[i]'hlt]) by
                        rw [HL.out, dest_cons, if_neg H200.out, if_neg (by have := HCB.out; have := HC41.out; omega), if_neg (by have := HCB.out; omega)])
                      by_cases d32 : c < 32
                      · have db : decide (c < 32) = true := decide_eq_true d32
                        have HX := Aside0.mk (show dest (s.data.toList.drop i) i bs = none by rw [HE.out, if_pos (by have := HCB.out; omega)])
                        clear d32 c92
                        go_wp2_with (go_at_call 44; refine (lenB _ _ bs _ HB.out).mono ?_; rintro e w2 ⟨rfl, rfl⟩)
                        (try simp only [Exit.inBlock, Exit.then])
                        refine bodyPost_ret (results_tmp4 rfl _ _ _) rfl ?_
                        exact ⟨by rw [FAIL.out HX.out]; rfl, HW.out⟩
                      · have db : decide (c < 32) = false := decide_eq_false d32
                        by_cases d126 : 126 < c
                        · have db2 : decide (126 < c) = true := decide_eq_true d126
                          have HX := Aside0.mk (show dest (s.data.toList.drop i) i bs = none by rw [HE.out, if_pos (by have := HCB.out; omega)])
                          clear d32 c92 d126
                          go_wp2_with (go_at_call 44; refine (lenB _ _ bs _ HB.out).mono ?_; rintro e w2 ⟨rfl, rfl⟩)
                          (try simp only [Exit.inBlock, Exit.then])
                          refine bodyPost_ret (results_tmp4 rfl _ _ _) rfl ?_
                          exact ⟨by rw [FAIL.out HX.out]; rfl, HW.out⟩
                        · have db2 : decide (126 < c) = false := decide_eq_false d126
                          have HX := Aside0.mk (show dest (s.data.toList.drop i) i bs = dest (s.data.toList.drop (i + 1)) (i + 1) (bs ++ [s[i]'hlt]) by rw [HE.out, if_neg (by have := HCB.out; omega)])
                          clear d32 c92 d126
                          go_wp2_with (first | (go_at_call 44; refine (lenB _ _ bs _ HB.out).mono ?_; rintro e w2 ⟨rfl, rfl⟩) | (go_at_call 46; refine (writeB _ _ bs _ _ HCB.out _ HB.out HD.out.1 HW.out.size).mono ?_; rintro e w3 ⟨rfl, hB3, hb3⟩; have HB3 := Aside0.mk hB3; have HW3 := Aside0.mk (HW.out.trans hb3); clear hB3 hb3))
                          go_roundg (s.size + 2 - (i + 1))
                          case measure => omega
                          case rel => exact ⟨i + 1, bs ++ [s[i]'hlt], by omega, by omega, by go_num, ⟨by have := H200.out; simp; omega, by rw [HD.out.2, HX.out]⟩, HB3, HW3⟩
              · have hge : decide ((i : Int) < (s.size : Int)) = false := decide_eq_false (by omega)
                go_wp2_with fail
                (try simp only [Exit.inBlock, Exit.then])
                refine bodyPost_ret (results_tmp4 rfl _ _ _) rfl ?_
                exact ⟨by rw [FAIL.out (by rw [drop_nil s i (by omega), dest_nil])]; rfl, HW.out⟩
    · have hge : decide ((s.size : Int) ≤ (k : Int)) = true := decide_eq_true (by omega)
      have HN := Aside0.mk (show targetV s.data.toList = .tuple #[.string ⟨#[]⟩, .int .i64 0, .int .i64 0, .bool false] by
        unfold targetV targetO
        rw [HS.out, drop_nil s k (by omega), scan_nil])
      go_wp2_with fail
      (try simp only [Exit.inBlock, Exit.then])
      refine bodyPost_ret (results_tmp4 rfl _ _ _) rfl ?_
      exact ⟨by rw [HN.out]; rfl, Below.refl _ _⟩
end Go.Proofs.YtmjdeejccmcpnabDoor.Q
