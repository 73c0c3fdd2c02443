/- character: one character of the text. -/
import Derived.Test.YtmjdeejccmcpnabDoorE0
import Derived.Test.YtmjdeejccmcpnabDoorQ37
namespace Go.Proofs.YtmjdeejccmcpnabDoor.Q
open Go.RowKit Go.Proofs.YtmjdeejccmcpnabDoorW.PrintWords Go.Proofs.YtmjdeejccmcpnabDoorW.PrintLast Go.Proofs.YtmjdeejccmcpnabDoorW.PrintMore
set_option linter.unusedVariables false
set_option linter.unusedSimpArgs false
theorem info30 : (Tryd.prog.info? 30).map (fun i => (i.zero, i.size, i.bytes)) = some (some (.agg #[.int .i64 0, .int .i64 0, .slice none 0 0]), 3, 40) := by kernel_rfl
theorem info38 : (Tryd.prog.info? 38).map (fun i => (i.zero, i.size, i.bytes)) = some (some (.agg #[.int .i64 0, .int .i64 0, .int .i64 0, .int .i64 0, .string ⟨#[]⟩]), 5, 48) := by kernel_rfl
section
variable {B : Nat} {W W' : World} {r : Nat} {vo vl v : Value} {st : Rdr}
theorem RdV.appended_l {x : S38} (h : RdV B W r vo vl st) (ho : Kd.R k38 38 W' B (fun _ => True) v (st.l ++ [x])) (hg : W.grownBy W' vl.ownBlock) : RdV B (W'.setCell ⟨r, 1, none⟩ v) r vo v { st with l := st.l ++ [x] } :=
  have hh := blk_grown h.h hg (Kd.R_ne h.l h.h (by decide))
  ⟨blk_put hh 1 v rfl, Kd.R_set (Kd.R_over h.o h.l (by decide) hg) hh (by decide) 1 v, Kd.R_set ho hh (by decide) 1 v, h.b⟩
theorem RdV.appended_o {x : S30} (h : RdV B W r vo vl st) (ho : Kd.R k30 30 W' B (fun _ => True) v (st.o ++ [x])) (hg : W.grownBy W' vo.ownBlock) : RdV B (W'.setCell ⟨r, 0, none⟩ v) r v vl { st with o := st.o ++ [x] } :=
  have hh := blk_grown h.h hg (Kd.R_ne h.o h.h (by decide))
  ⟨blk_put hh 0 v rfl, Kd.R_set ho hh (by decide) 0 v, Kd.R_set (Kd.R_over h.l h.o (by decide) hg) hh (by decide) 0 v, h.b⟩
end
theorem Tgl.belowB {r B : Nat} {w w' : World} (h : Tgl w) (h0 : 0 < B ∧ 0 < r) (hb : Fr r B w w') : Tgl w' := by
  have e : ∀ j v, w.cell? ⟨0, j, none⟩ = some v → w'.cell? ⟨0, j, none⟩ = some v := fun j v hv => (hb.cell (p := ⟨0, j, none⟩) h0.1 (by show 0 ≠ r; omega)).trans hv
  exact ⟨e _ _ h.m0, e _ _ h.n0, e _ _ h.m1, e _ _ h.n1, e _ _ h.m2, e _ _ h.n2, e _ _ h.m3, e _ _ h.n3⟩
/-- the reader, wherever its rows lie -/
def RdE (B : Nat) (W : World) (r : Nat) (st : Rdr) : Prop := ∃ vo vl, RdV B W r vo vl st
/-- the characters that may stand in a flow -/
def charB (c : Int) : Bool := decide (c = 9 ∨ c = 10 ∨ (32 ≤ c ∧ c < 127) ∨ (160 ≤ c ∧ c < 55296) ∨ (57343 < c ∧ c ≤ 1114111))
theorem flow_Char_eq (c : Int) : flow_Char.f c = some (charB c) := by
  unfold flow_Char.f charB
  repeat' split
  all_goals (congr 1; first | (symm; exact decide_eq_true (by omega)) | (symm; exact decide_eq_false (by omega)) | (exact decide_eq_decide.2 (by omega)))
/-- what the decoder makes of a text's head -/
def chBad (s : ByteArray) : Bool := (((Lib.decodeGo s).1 : Int) == 65533 && ((Lib.decodeGo s).2 : Int) == 1) || !charB ((Lib.decodeGo s).1 : Int)
def chS (s : ByteArray) (st : Rdr) : Rdr :=
  { st with o := st.o ++ [⟨if chBad s = true then 63 else ((Lib.decodeGo s).1 : Int), 0, attrsOf st⟩], l := if chBad s = true then st.l ++ [⟨5, 0, (st.o.length : Int), 0, ⟨#[]⟩⟩] else st.l }
set_option maxHeartbeats 4000000 in
set_option maxRecDepth 100000 in
theorem char_ok (B : Nat) (r : Nat) (vo vl : Value) (st : Rdr) (s : ByteArray) (w : World) (hT : Tgl w) (hU : Lib.Utf8Tabs 2 3 w) (hR : RdV B w r vo vl st) (hB : B ≤ w.heap.size) (h0 : 0 < B ∧ 0 < r) (hn : st.o.length ≤ 1000000000 ∧ st.l.length ≤ 1000000000) (hc : ((Lib.decodeGo s).1 : Int) ≤ 2147483647) :
    Calls Tryd.prog 25 #[.pointer (some ⟨r, 0, none⟩), .string s] w fun e w' => e = .returned (.int .i64 ((Lib.decodeGo s).2 : Int)) ∧ RdE B w' r (chS s st) ∧ Fr r B w w' := by
  have HT := Aside0.mk hT
  have HR := Aside0.mk hR
  have HLN := Aside0.mk hn
  have HBB := Aside0.mk hB
  have HBD := Aside0.mk (show chBad s = ((((Lib.decodeGo s).1 : Int) == 65533 && ((Lib.decodeGo s).2 : Int) == 1) || !charB ((Lib.decodeGo s).1 : Int)) from rfl)
  obtain ⟨c, hcc⟩ : ∃ c, (Lib.decodeGo s).1 = c := ⟨_, rfl⟩
  obtain ⟨n, hcn⟩ : ∃ n, (Lib.decodeGo s).2 = n := ⟨_, rfl⟩
  have hD := Tryd.utf8_DecodeRuneInString s w hU
  have HS := Aside0.mk (show chS s st = { st with o := st.o ++ [⟨if chBad s = true then 63 else (c : Int), 0, attrsOf st⟩], l := if chBad s = true then st.l ++ [⟨5, 0, (st.o.length : Int), 0, ⟨#[]⟩⟩] else st.l } by unfold chS; rw [hcc])
  rw [hcc, hcn] at HBD hD
  rw [hcc] at hc
  rw [hcn]
  have HD := Aside0.mk hD
  clear hcc hcn hD hT hU hR hB hn
  obtain ⟨bad, hbad⟩ : ∃ b, chBad s = b := ⟨_, rfl⟩
  rw [hbad] at HBD HS
  clear hbad
  obtain ⟨cb, hcb⟩ : ∃ b, charB (c : Int) = b := ⟨_, rfl⟩
  rw [hcb] at HBD
  have HF := Aside0.mk (show flow_Char.f (c : Int) = some cb by rw [flow_Char_eq, hcb])
  clear hcb
  go_enter Tryd.func25, Tryd.ntmps25
  go_upto_region 2 with (go_at_call 41; refine HD.out.mono ?_; rintro e w1 ⟨rfl, hb1⟩; have HR1 := Aside0.mk (HR.out.below hb1); have HW1 := Aside0.mk (show Fr r B w w1 from Fr.of hb1 HBB.out); have HB1 := Aside0.mk (Nat.le_trans HBB.out hb1.size); clear hb1)
  clear HR HD
  go_cut [23] (fun v23 wc => v23 = .bool bad ∧ Aside0 (RdV B wc r vo vl st) ∧ Aside0 (Fr r B w wc))
  case first =>
    by_cases c1 : (c : Int) = 65533
    · have cb1 : ((c : Int) == 65533) = true := beq_iff_eq.2 c1
      by_cases n1 : (n : Int) = 1
      · have nb1 : ((n : Int) == 1) = true := beq_iff_eq.2 n1
        have HQ := Aside0.mk (show bad = true by rw [HBD.out, cb1, nb1]; rfl)
        clear c1 n1
        go_wp2_with fail
        go_meet
        case rel => exact ⟨by rw [HQ.out], HR1, HW1⟩
      · have nb1 : ((n : Int) == 1) = false := beq_eq_false_iff_ne.2 n1
        have HQ := Aside0.mk (show bad = !cb by rw [HBD.out, cb1, nb1]; rfl)
        clear n1 c1
        cases cb
        all_goals
          go_wp2_with (go_at_call 42; refine (flow_Char.calls _ _ _ HF.out).mono ?_; rintro e w2 ⟨rfl, hb2⟩; have HR2 := Aside0.mk (HR1.out.below hb2.below); have HW2 := Aside0.mk (HW1.out.trans (Fr.of hb2.below HB1.out)); clear hb2)
          go_meet
          case rel => exact ⟨by rw [HQ.out]; rfl, HR2, HW2⟩
    · have cb1 : ((c : Int) == 65533) = false := beq_eq_false_iff_ne.2 c1
      have HQ := Aside0.mk (show bad = !cb by rw [HBD.out, cb1]; rfl)
      clear c1
      cases cb
      all_goals
        go_wp2_with (go_at_call 42; refine (flow_Char.calls _ _ _ HF.out).mono ?_; rintro e w2 ⟨rfl, hb2⟩; have HR2 := Aside0.mk (HR1.out.below hb2.below); have HW2 := Aside0.mk (HW1.out.trans (Fr.of hb2.below HB1.out)); clear hb2)
        go_meet
        case rel => exact ⟨by rw [HQ.out]; rfl, HR2, HW2⟩
  case rest =>
    clear HR1 HW1 HB1 HF HBD
    obtain ⟨rfl, HR2, HW2⟩ := hcut
    go_upto_if 23 with fail
    go_cut [5] (fun v5 wd => ∃ vl1 l1, v5 = .int .i32 (if bad = true then 63 else (c : Int)) ∧ l1 = (if bad = true then st.l ++ [⟨5, 0, (st.o.length : Int), 0, ⟨#[]⟩⟩] else st.l) ∧ Aside0 (RdV B wd r vo vl1 { st with l := l1 }) ∧ Aside0 (Fr r B w wd))
    case first =>
      cases bad
      · go_wp2_with fail
        go_meet
        case rel => exact ⟨_, _, rfl, rfl, HR2, HW2⟩
      · go_upto_region 3 with fail
        obtain ⟨Ao, co, rfl⟩ := Kd.R_slice HR2.out.o
        have HRd := Aside0.mk (HR2.out.drewN 1)
        have HWd := Aside0.mk HW2.out.drew
        have HBd := Aside0.mk (show B ≤ wc.drew.heap.size from Nat.le_trans HBB.out HW2.out.size)
        change Aside0 (RdV B wc.drew r (.slice Ao st.o.length co) vl st) at HRd
        refine start_ (n := 16) (S := fun w' => w'.cell? ⟨r, 0, none⟩ = some (.slice Ao st.o.length co) ∧ w'.cell? ⟨r, 1, none⟩ = some vl) (ds := [12, 15]) #[false, false, false, false, false, false, false, false, false, false, false, false, false, false, false, false] (by kernel_rfl) rfl rfl ⟨HRd.out.cells.1, HRd.out.cells.2.1⟩ (fun hHeld => ?_)
        refine pure_ (i := 0) (N := some 24) (v := ?_) (a' := ?_) #[true, false, false, false, false, false, false, false, false, false, false, false, false, false, false, false] rfl rfl (by kernel_rfl) (fun _ _ _ h => h) (Or.inl ⟨by rfl, ?_⟩) ?_ ?_
        rotate_left
        · intro w'
          go_simp
          with_reducible rfl
        rotate_left
        · simp only [Act.put, List.setIfInBounds_toArray, List.set_cons_zero, List.set_cons_succ, i64_w, i32_w]
          rfl
        refine pure_ (i := 1) (N := some 25) (v := ?_) (a' := ?_) #[true, true, false, false, false, false, false, false, false, false, false, false, false, false, false, false] rfl rfl (by kernel_rfl) (fun _ _ _ h => h) (Or.inl ⟨by rfl, ?_⟩) ?_ ?_
        rotate_left
        · intro w'
          go_simp
          with_reducible rfl
        rotate_left
        · simp only [Act.put, List.setIfInBounds_toArray, List.set_cons_zero, List.set_cons_succ, i64_w, i32_w]
          rfl
        refine pure_ (i := 2) (N := some 26) (v := ?_) (a' := ?_) #[true, true, true, false, false, false, false, false, false, false, false, false, false, false, false, false] rfl rfl (by kernel_rfl) (fun _ _ _ h => h) (Or.inl ⟨by rfl, ?_⟩) ?_ ?_
        rotate_left
        · intro w'
          go_simp
          with_reducible rfl
        rotate_left
        · simp only [Act.put, List.setIfInBounds_toArray, List.set_cons_zero, List.set_cons_succ, i64_w, i32_w]
          rfl
        refine pure_ (i := 3) (N := some 27) (v := ?_) (a' := ?_) #[true, true, true, true, false, false, false, false, false, false, false, false, false, false, false, false] rfl rfl (by kernel_rfl) (fun _ _ _ h => h) (Or.inl ⟨by rfl, ?_⟩) ?_ ?_
        rotate_left
        · intro w'
          go_simp
          with_reducible rfl
        rotate_left
        · simp only [Act.put, List.setIfInBounds_toArray, List.set_cons_zero, List.set_cons_succ, i64_w, i32_w]
          rfl
        refine pure_ (i := 5) (N := some 29) (v := ?_) (a' := ?_) #[true, true, true, true, false, true, false, false, false, false, false, false, false, false, false, false] rfl rfl (by kernel_rfl) (fun _ _ _ h => h) (Or.inl ⟨by rfl, ?_⟩) ?_ ?_
        rotate_left
        · intro w'
          go_simp
          with_reducible rfl
        rotate_left
        · simp only [Act.put, List.setIfInBounds_toArray, List.set_cons_zero, List.set_cons_succ, i64_w, i32_w]
          rfl
        refine pure_ (i := 6) (N := some 30) (v := ?_) (a' := ?_) #[true, true, true, true, false, true, true, false, false, false, false, false, false, false, false, false] rfl rfl (by kernel_rfl) (fun _ _ _ h => h) (Or.inl ⟨by rfl, ?_⟩) ?_ ?_
        rotate_left
        · intro w'
          go_simp
          with_reducible rfl
        rotate_left
        · simp only [Act.put, List.setIfInBounds_toArray, List.set_cons_zero, List.set_cons_succ, i64_w, i32_w]
          rfl
        refine pure_ (i := 7) (N := some 31) (v := ?_) (a' := ?_) #[true, true, true, true, false, true, true, true, false, false, false, false, false, false, false, false] rfl rfl (by kernel_rfl) (fun _ _ _ h => h) (Or.inl ⟨by rfl, ?_⟩) ?_ ?_
        rotate_left
        · intro w'
          go_simp
          with_reducible rfl
        rotate_left
        · simp only [Act.put, List.setIfInBounds_toArray, List.set_cons_zero, List.set_cons_succ, i64_w, i32_w]
          rfl
        refine take_ (i := 4) (N := some 28) (v := ?_) (a' := ?_) #[true, true, true, true, true, true, true, true, false, false, false, false, false, false, false, false] rfl rfl (by kernel_rfl) (fun _ _ _ h => h) (Or.inl ⟨by rfl, ?_⟩) hHeld ?_ ?_
        rotate_left
        · rintro w' ⟨s0, s1⟩
          go_simp
          with_reducible rfl
        rotate_left
        · simp only [Act.put, List.setIfInBounds_toArray, List.set_cons_zero, List.set_cons_succ, i64_w, i32_w]
          rfl
        refine take_ (i := 8) (N := some 32) (v := ?_) (a' := ?_) #[true, true, true, true, true, true, true, true, true, false, false, false, false, false, false, false] rfl rfl (by kernel_rfl) (fun _ _ _ h => h) (Or.inl ⟨by rfl, ?_⟩) hHeld ?_ ?_
        rotate_left
        · rintro w' ⟨s0, s1⟩
          go_simp
          with_reducible rfl
        rotate_left
        · simp only [Act.put, List.setIfInBounds_toArray, List.set_cons_zero, List.set_cons_succ, i64_w, i32_w]
          rfl
        refine pure_ (i := 9) (N := some 33) (v := ?_) (a' := ?_) #[true, true, true, true, true, true, true, true, true, true, false, false, false, false, false, false] rfl rfl (by kernel_rfl) (fun _ _ _ h => h) (Or.inl ⟨by rfl, ?_⟩) ?_ ?_
        rotate_left
        · intro w'
          go_simp
          with_reducible rfl
        rotate_left
        · simp only [Act.put, List.setIfInBounds_toArray, List.set_cons_zero, List.set_cons_succ, i64_w, i32_w]
          rfl
        refine pure_ (i := 10) (N := some 34) (v := ?_) (a' := ?_) #[true, true, true, true, true, true, true, true, true, true, true, false, false, false, false, false] rfl rfl (by kernel_rfl) (fun _ _ _ h => h) (Or.inl ⟨by rfl, ?_⟩) ?_ ?_
        rotate_left
        · intro w'
          go_simp
          with_reducible rfl
        rotate_left
        · simp only [Act.put, List.setIfInBounds_toArray, List.set_cons_zero, List.set_cons_succ, i64_w, i32_w]
          rfl
        refine one_ (i := 11) (N := some 35) #[true, true, true, true, true, true, true, true, true, true, true, true, false, false, false, false] rfl rfl (by kernel_rfl) (by decide) (fun K hK => ?_)
        refine value_ (w1 := ?_) (v := ?_) (by rfl) rfl ?_ ?_
        rotate_left 2
        · go_simp
          constructor
          · rfl
          · rfl
        refine hK.out _ _ ⟨(HRd.out.alloc _).cells.1, (HRd.out.alloc _).cells.2.1⟩ (fun hHeld => ?_)
        clear hK K
        refine norm_ (a' := ?_) ?_ ?_
        rotate_left
        · show Act.put _ (some 35) _ = _
          simp only [Act.put, List.setIfInBounds_toArray, List.set_cons_zero, List.set_cons_succ, i64_w, i32_w]
          rfl
        refine last_ (i := 12) (N := some 36) #[true, true, true, true, true, true, true, true, true, true, true, true, true, false, false, false] rfl rfl (by kernel_rfl) (by decide) (fun K hK => ?_)
        refine Kd.R_append_step k38 B (by rfl) (.tmp 28) (.tmp 35) 23 38 _ 48 (by rfl) Tryd.underlying23 info38 rfl (by decide) (by decide) vl st.l ⟨5, 0, (st.o.length : Int), 0, ⟨#[]⟩⟩ [.int .i64 5, .int .i64 0, .int .i64 (st.o.length : Int), .int .i64 0, .string ⟨#[]⟩] (fun _ => True) (fun _ => False) (by rfl) (by rfl) (k38_mkM _ _ _ _) (fun _ h => h.elim) (fun _ _ => trivial) HRd.out.l (Below.refl B _) HBd.out (by have := HLN.out.2; omega) ?_
        intro v5 w5 ho5 hb5 hg5 hat5
        obtain ⟨A5, c5, rfl⟩ := Kd.R_slice ho5
        have HR5 := Aside0.mk (HRd.out.appended_l ho5 hg5)
        have r1 : w5.cell? ⟨r, 1, none⟩ = some vl := (blk_cell (blk_grown HRd.out.h hg5 (Kd.R_ne HRd.out.l HRd.out.h (by decide))) 1).trans rfl
        have rf : w5.frozen? ⟨r, 1, none⟩ = false := blk_frozen (blk_grown HRd.out.h hg5 (Kd.R_ne HRd.out.l HRd.out.h (by decide))) 1
        have HW5 := Aside0.mk (fun u : Value => (HWd.out.trans (Fr.ofR HRd.out.l (.inr rfl) hb5 hg5)).setCell (p := ⟨r, 1, none⟩) rfl u)
        clear ho5 hb5 hg5 hat5
        refine hK.out _ _ ?_
        clear hK K
        refine norm_ (a' := ?_) ?_ ?_
        rotate_left
        · show Act.put _ (some 36) _ = _
          simp only [Act.put, List.setIfInBounds_toArray, List.set_cons_zero, List.set_cons_succ, i64_w, i32_w]
          rfl
        refine pure_ (i := 13) (N := some 37) (v := ?_) (a' := ?_) #[true, true, true, true, true, true, true, true, true, true, true, true, true, true, false, false] rfl rfl (by kernel_rfl) (fun _ _ _ h => h) (Or.inl ⟨by rfl, ?_⟩) ?_ ?_
        rotate_left
        · intro w'
          go_simp
          with_reducible rfl
        rotate_left
        · simp only [Act.put, List.setIfInBounds_toArray, List.set_cons_zero, List.set_cons_succ, i64_w, i32_w]
          rfl
        refine pure_ (i := 14) (N := some 38) (v := ?_) (a' := ?_) #[true, true, true, true, true, true, true, true, true, true, true, true, true, true, true, false] rfl rfl (by kernel_rfl) (fun _ _ _ h => h) (Or.inl ⟨by rfl, ?_⟩) ?_ ?_
        rotate_left
        · intro w'
          go_simp
          with_reducible rfl
        rotate_left
        · simp only [Act.put, List.setIfInBounds_toArray, List.set_cons_zero, List.set_cons_succ, i64_w, i32_w]
          rfl
        refine last_ (i := 15) (N := none) #[true, true, true, true, true, true, true, true, true, true, true, true, true, true, true, true] rfl rfl (by kernel_rfl) (by decide) (fun K hK => ?_)
        refine skip_ (w1 := ?_) (by rfl) rfl ?_ ?_
        rotate_left
        · go_simp
          rfl
        refine hK.out _ _ ?_
        clear hK K
        refine done_ (by kernel_rfl) ?_

        go_wp2_with fail
        go_meet
        case rel => exact ⟨.slice A5 (st.l.length + 1) c5, st.l ++ [⟨5, 0, (st.o.length : Int), 0, ⟨#[]⟩⟩], by simp, by simp, ⟨by simpa using HR5.out⟩, ⟨by simpa using HW5.out (.slice A5 (st.l.length + 1) c5)⟩⟩
    case rest =>
      clear HR2 HW2
      obtain ⟨vl1, l1, rfl, hl1, HR3, HW3⟩ := hcut
      have HL1 := Aside0.mk hl1
      clear hl1
      obtain ⟨ch, hch⟩ : ∃ ch, (if bad = true then 63 else (c : Int)) = ch := ⟨_, rfl⟩
      have hch0 : 0 ≤ ch := by rw [← hch]; split <;> omega
      have hch1 : ch ≤ 2147483647 := by rw [← hch]; split <;> omega
      rw [hch] at HS ⊢
      clear hch
      have HCW := Aside0.mk (show wrap64 ch = ch by unfold wrap64; omega)
      go_upto_region 5 with fail
      have HRd := Aside0.mk (HR3.out.drewN 1)
      have HWd := Aside0.mk HW3.out.drew
      have HTd := Aside0.mk (HT.out.belowB h0 HWd.out)
      have HWs := Aside0.mk (show B ≤ wc.drew.heap.size from Nat.le_trans HBB.out HW3.out.size)
      change Aside0 (RdV B wc.drew r vo vl1 { st with l := l1 }) at HRd
      refine start_ (n := 15) (S := fun w' => w'.cell? ⟨r, 0, none⟩ = some vo) (ds := [11, 14]) #[false, false, false, false, false, false, false, false, false, false, false, false, false, false, false] (by kernel_rfl) rfl rfl (HRd.out.cells.1) (fun hHeld => ?_)
      refine pure_ (i := 0) (N := some 39) (v := ?_) (a' := ?_) #[true, false, false, false, false, false, false, false, false, false, false, false, false, false, false] rfl rfl (by kernel_rfl) (fun _ _ _ h => h) (Or.inl ⟨by rfl, ?_⟩) ?_ ?_
      rotate_left
      · intro w'
        go_simp
        with_reducible rfl
      rotate_left
      · simp only [Act.put, List.setIfInBounds_toArray, List.set_cons_zero, List.set_cons_succ, i64_w, i32_w]
        rfl
      refine pure_ (i := 1) (N := some 40) (v := ?_) (a' := ?_) #[true, true, false, false, false, false, false, false, false, false, false, false, false, false, false] rfl rfl (by kernel_rfl) (fun _ _ _ h => h) (Or.inl ⟨by rfl, ?_⟩) ?_ ?_
      rotate_left
      · intro w'
        go_simp
        with_reducible rfl
      rotate_left
      · simp only [Act.put, List.setIfInBounds_toArray, List.set_cons_zero, List.set_cons_succ, i64_w, i32_w]
        rfl
      refine pure_ (i := 2) (N := some 41) (v := ?_) (a' := ?_) #[true, true, true, false, false, false, false, false, false, false, false, false, false, false, false] rfl rfl (by kernel_rfl) (fun _ _ _ h => h) (Or.inl ⟨by rfl, ?_⟩) ?_ ?_
      rotate_left
      · intro w'
        go_simp
        with_reducible rfl
      rotate_left
      · simp only [Act.put, List.setIfInBounds_toArray, List.set_cons_zero, List.set_cons_succ, i64_w, i32_w]
        rfl
      refine pure_ (i := 3) (N := some 42) (v := ?_) (a' := ?_) #[true, true, true, true, false, false, false, false, false, false, false, false, false, false, false] rfl rfl (by kernel_rfl) (fun _ _ _ h => h) (Or.inl ⟨by rfl, ?_⟩) ?_ ?_
      rotate_left
      · intro w'
        go_simp
        with_reducible rfl
      rotate_left
      · simp only [Act.put, List.setIfInBounds_toArray, List.set_cons_zero, List.set_cons_succ, i64_w, i32_w]
        rfl
      refine pure_ (i := 5) (N := some 44) (v := ?_) (a' := ?_) #[true, true, true, true, false, true, false, false, false, false, false, false, false, false, false] rfl rfl (by kernel_rfl) (fun _ _ _ h => h) (Or.inl ⟨by rfl, ?_⟩) ?_ ?_
      rotate_left
      · intro w'
        go_simp
        with_reducible rfl
      rotate_left
      · simp only [Act.put, List.setIfInBounds_toArray, List.set_cons_zero, List.set_cons_succ, i64_w, i32_w]
        rfl
      refine pure_ (i := 6) (N := some 45) (v := ?_) (a' := ?_) #[true, true, true, true, false, true, true, false, false, false, false, false, false, false, false] rfl rfl (by kernel_rfl) (fun _ _ _ h => h) (Or.inl ⟨by rfl, ?_⟩) ?_ ?_
      rotate_left
      · intro w'
        go_simp
        with_reducible rfl
      rotate_left
      · simp only [Act.put, List.setIfInBounds_toArray, List.set_cons_zero, List.set_cons_succ, i64_w, i32_w]
        rfl
      refine pure_ (i := 7) (N := some 46) (v := ?_) (a' := ?_) #[true, true, true, true, false, true, true, true, false, false, false, false, false, false, false] rfl rfl (by kernel_rfl) (fun _ _ _ h => h) (Or.inl ⟨by rfl, ?_⟩) ?_ ?_
      rotate_left
      · intro w'
        go_simp
        with_reducible rfl
      rotate_left
      · simp only [Act.put, List.setIfInBounds_toArray, List.set_cons_zero, List.set_cons_succ, i64_w, i32_w]
        rfl
      refine take_ (i := 4) (N := some 43) (v := ?_) (a' := ?_) #[true, true, true, true, true, true, true, true, false, false, false, false, false, false, false] rfl rfl (by kernel_rfl) (fun _ _ _ h => h) (Or.inl ⟨by rfl, ?_⟩) hHeld ?_ ?_
      rotate_left
      · intro w' s0
        go_simp
        with_reducible rfl
      rotate_left
      · simp only [Act.put, List.setIfInBounds_toArray, List.set_cons_zero, List.set_cons_succ, i64_w, i32_w]
        rfl
      refine one_ (i := 8) (N := some 47) #[true, true, true, true, true, true, true, true, true, false, false, false, false, false, false] rfl rfl (by kernel_rfl) (by decide) (fun K hK => ?_)
      refine goes_ Tryd.func43 (by kernel_rfl) rfl #[.pointer (some ⟨r, 0, none⟩)] (by rfl) rfl rfl (by simp only [List.map_toArray, List.map_cons, List.map_nil]; rfl) ?_
      with_reducible refine (attrs_ok B r _ _ _ _ HTd.out HRd.out).mono ?_
      rintro e w6 ⟨va, rfl, hA, hb6⟩
      refine ⟨_, rfl, ?_⟩
      have HR6 := Aside0.mk (HRd.out.below hb6)
      have HW6 := Aside0.mk (HWd.out.trans (Fr.of hb6 HWs.out))
      have HW6s := Aside0.mk (show B ≤ w6.heap.size from Nat.le_trans HWs.out hb6.size)
      obtain ⟨Aa, ca, rfl⟩ := Kd.R_slice hA
      have HA6 := Aside0.mk hA
      clear hA hb6
      refine hK.out _ _ (HR6.out.cells.1) (fun hHeld => ?_)
      clear hK K
      refine norm_ (a' := ?_) ?_ ?_
      rotate_left
      · show Act.put _ (some 47) _ = _
        simp only [Act.put, List.setIfInBounds_toArray, List.set_cons_zero, List.set_cons_succ, i64_w, i32_w]
        rfl
      refine pure_ (i := 9) (N := some 48) (v := ?_) (a' := ?_) #[true, true, true, true, true, true, true, true, true, true, false, false, false, false, false] rfl rfl (by kernel_rfl) (fun _ _ _ h => h) (Or.inl ⟨by rfl, ?_⟩) ?_ ?_
      rotate_left
      · intro w'
        go_simp
        with_reducible rfl
      rotate_left
      · simp only [Act.put, List.setIfInBounds_toArray, List.set_cons_zero, List.set_cons_succ, i64_w, i32_w]
        rfl
      refine one_ (i := 10) (N := some 49) #[true, true, true, true, true, true, true, true, true, true, true, false, false, false, false] rfl rfl (by kernel_rfl) (by decide) (fun K hK => ?_)
      refine value_ (w1 := ?_) (v := ?_) (by rfl) rfl ?_ ?_
      rotate_left 2
      · go_simp
        constructor
        · rfl
        · rfl
      refine hK.out _ _ ((HR6.out.alloc _).cells.1) (fun hHeld => ?_)
      clear hK K
      refine norm_ (a' := ?_) ?_ ?_
      rotate_left
      · show Act.put _ (some 49) _ = _
        simp only [Act.put, List.setIfInBounds_toArray, List.set_cons_zero, List.set_cons_succ, i64_w, i32_w]
        rfl
      refine last_ (i := 11) (N := some 50) #[true, true, true, true, true, true, true, true, true, true, true, true, false, false, false] rfl rfl (by kernel_rfl) (by decide) (fun K hK => ?_)
      refine Kd.R_append_step k30 B (by rfl) (.tmp 43) (.tmp 49) 22 30 _ 40 (by rfl) Tryd.underlying22 info30 rfl (by decide) (by decide) vo st.o ⟨wrap64 ch, 0, attrsOf st⟩ [.int .i64 (wrap64 ch), .int .i64 0, .slice Aa (attrsOf st).length ca] (fun _ => True) (fun k => some k ≠ vo.ownBlock) (by rfl) (by rfl) ?hM (fun _ h => ⟨trivial, h⟩) (fun _ _ => trivial) HR6.out.o (Below.refl B _) HW6s.out (by have := HLN.out.1; omega) ?_
      case hM => exact k30_mkM _ _ _ _ (Kd.R_lower (Kd.R_mono (Kd.R_new HA6.out (Kd.R_own HRd.out.o).choose_spec) (fun k hk => hk.2)) HWs.out)
      intro v7 w7 ho7 hb7 hg7 hat7
      obtain ⟨A7, c7, rfl⟩ := Kd.R_slice ho7
      have HR7 := Aside0.mk (HR6.out.appended_o ho7 hg7)
      have r0 : w7.cell? ⟨r, 0, none⟩ = some vo := (blk_cell (blk_grown HR6.out.h hg7 (Kd.R_ne HR6.out.o HR6.out.h (by decide))) 0).trans rfl
      have rf : w7.frozen? ⟨r, 0, none⟩ = false := blk_frozen (blk_grown HR6.out.h hg7 (Kd.R_ne HR6.out.o HR6.out.h (by decide))) 0
      have HW7 := Aside0.mk (fun u : Value => (HW6.out.trans (Fr.ofR HR6.out.o (.inl rfl) hb7 hg7)).setCell (p := ⟨r, 0, none⟩) rfl u)
      clear ho7 hb7 hg7 hat7
      refine hK.out _ _ ?_
      clear hK K
      refine norm_ (a' := ?_) ?_ ?_
      rotate_left
      · show Act.put _ (some 50) _ = _
        simp only [Act.put, List.setIfInBounds_toArray, List.set_cons_zero, List.set_cons_succ, i64_w, i32_w]
        rfl
      refine pure_ (i := 12) (N := some 51) (v := ?_) (a' := ?_) #[true, true, true, true, true, true, true, true, true, true, true, true, true, false, false] rfl rfl (by kernel_rfl) (fun _ _ _ h => h) (Or.inl ⟨by rfl, ?_⟩) ?_ ?_
      rotate_left
      · intro w'
        go_simp
        with_reducible rfl
      rotate_left
      · simp only [Act.put, List.setIfInBounds_toArray, List.set_cons_zero, List.set_cons_succ, i64_w, i32_w]
        rfl
      refine pure_ (i := 13) (N := some 52) (v := ?_) (a' := ?_) #[true, true, true, true, true, true, true, true, true, true, true, true, true, true, false] rfl rfl (by kernel_rfl) (fun _ _ _ h => h) (Or.inl ⟨by rfl, ?_⟩) ?_ ?_
      rotate_left
      · intro w'
        go_simp
        with_reducible rfl
      rotate_left
      · simp only [Act.put, List.setIfInBounds_toArray, List.set_cons_zero, List.set_cons_succ, i64_w, i32_w]
        rfl
      refine last_ (i := 14) (N := none) #[true, true, true, true, true, true, true, true, true, true, true, true, true, true, true] rfl rfl (by kernel_rfl) (by decide) (fun K hK => ?_)
      refine skip_ (w1 := ?_) (by rfl) rfl ?_ ?_
      rotate_left
      · go_simp
        rfl
      refine hK.out _ _ ?_
      clear hK K
      refine done_ (by kernel_rfl) ?_

      go_wp2_with fail
      go_ret
      exact ⟨rfl, by rw [HS.out, ← HL1.out, ← HCW.out]; exact ⟨_, _, by simpa using HR7.out⟩, by simpa using HW7.out (.slice A7 (st.o.length + 1) c7)⟩
end Go.Proofs.YtmjdeejccmcpnabDoor.Q
