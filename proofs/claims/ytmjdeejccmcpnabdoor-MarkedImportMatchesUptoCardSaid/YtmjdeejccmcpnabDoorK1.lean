/- MarkedLine: the walk. -/
import Derived.Test.YtmjdeejccmcpnabDoorK0
namespace Go.Proofs.YtmjdeejccmcpnabDoor.Q
open Go.RowKit Go.Proofs.YtmjdeejccmcpnabDoorW.PrintWords Go.Proofs.YtmjdeejccmcpnabDoorW.PrintLast Go.Proofs.YtmjdeejccmcpnabDoorW.PrintMore
set_option linter.unusedVariables false
set_option linter.unusedSimpArgs false
theorem linkAt_okN (a : Addr) (cp : Nat) (l : List S66) (N : Nat) (hN : l.length = N) (i : Nat) (w : World) (hT : Tk w a l) (hi : i < N) (hl : N ≤ 1048576) (v : Value) (hv : lkV (lkS (l.drop (i + 1)) (i + 1)) = v) :
    Calls Tryd.prog 30 #[.slice (some a) N cp, .int .i64 (i : Int)] w fun e w' => e = .returned v ∧ Below w.heap.size w w' := by
  subst hN hv
  exact linkAt_ok a cp l i w hT hi hl
theorem add_block0 (a : Addr) (n : Nat) : (a.add n).block = a.block := by unfold Addr.add; split <;> rfl
/-- the tokens in memory, in a block of their own kind -/
def TB (w : World) (a : Addr) (l : List S66) : Prop := Tk w a l ∧ ∃ cs, w.heap[a.block]? = some (.cells cs 66 (0, 0))
theorem TB.t {w : World} {a : Addr} {l : List S66} (h : TB w a l) : Tk w a l := h.1
theorem TB.below {w w' : World} {a : Addr} {l : List S66} (h : TB w a l) (hb : Below w.heap.size w w') : TB w' a l := ⟨h.1.below hb, h.2.choose, blk_below h.2.choose_spec hb⟩
theorem TB.same {w w' : World} {a : Addr} {l : List S66} (h : TB w a l) (e : w'.heap[a.block]? = w.heap[a.block]?) : TB w' a l := by
  have hc : ∀ n, w'.cell? (a.add n) = w.cell? (a.add n) := fun n => World.cell?_of_block (by rw [add_block0]; exact e)
  have hd : ∀ n j, w'.cell? ⟨(a.add n).block, j, none⟩ = w.cell? ⟨(a.add n).block, j, none⟩ := fun n j => World.cell?_of_block (by show w'.heap[(a.add n).block]? = _; rw [add_block0]; exact e)
  exact ⟨⟨fun k t h1 => (hc _).trans (h.1.c0 k t h1), fun k t h1 => (hd _ _).trans (h.1.c1 k t h1), fun k t h1 => (hd _ _).trans (h.1.c2 k t h1), fun k t h1 => (hd _ _).trans (h.1.c3 k t h1)⟩, h.2.choose, e.trans h.2.choose_spec⟩
theorem TB.set {w : World} {a : Addr} {l : List S66} (h : TB w a l) {g t : Nat} {cells : Array Value} (hb : w.heap[g]? = some (.cells cells t (0, 0))) (ht : t ≠ 66 := by decide) {i : Nat} {u : Value} : TB (w.setCell ⟨g, i, none⟩ u) a l :=
  h.same (Below.heap_setCell w ⟨g, i, none⟩ u a.block (blk_ne h.2.choose_spec hb (Ne.symm ht)))
theorem TB.grown {w w' : World} {a : Addr} {l : List S66} (h : TB w a l) {row : Option Nat} (hg : w.grownBy w' row) (hne : some a.block ≠ row) : TB w' a l :=
  h.same (hg.block a.block (blk_lt h.2.choose_spec) hne)
theorem info30m : (Tryd.prog.info? 30).map (fun i => (i.zero, i.size, i.bytes)) = some (some (.agg #[.int .i64 0, .int .i64 0, .slice none 0 0]), 3, 40) := by kernel_rfl
theorem info38m : (Tryd.prog.info? 38).map (fun i => (i.zero, i.size, i.bytes)) = some (some (.agg #[.int .i64 0, .int .i64 0, .int .i64 0, .int .i64 0, .string ⟨#[]⟩]), 5, 48) := by kernel_rfl
theorem info32m : (Tryd.prog.info? 32).map (fun i => (i.zero, i.size, i.bytes)) = some (some (.agg #[.string ⟨#[]⟩, .string ⟨#[]⟩]), 2, 32) := by kernel_rfl
def names4 : Value := .agg #[.string ⟨#[98, 111, 108, 100]⟩, .string ⟨#[102, 105, 120, 101, 100]⟩, .string ⟨#[105, 116, 97, 108, 105, 99]⟩, .string ⟨#[115, 116, 114, 105, 107, 101]⟩]
theorem idx69_0 (w : World) : (Instr.index 69 (.agg #[.string ⟨#[98, 111, 108, 100]⟩, .string ⟨#[102, 105, 120, 101, 100]⟩, .string ⟨#[105, 116, 97, 108, 105, 99]⟩, .string ⟨#[115, 116, 114, 105, 107, 101]⟩]) (.int .i64 0)).run Tryd.prog w = .ok (.string ⟨#[98, 111, 108, 100]⟩) w := by kernel_rfl
theorem idx69_1 (w : World) : (Instr.index 69 (.agg #[.string ⟨#[98, 111, 108, 100]⟩, .string ⟨#[102, 105, 120, 101, 100]⟩, .string ⟨#[105, 116, 97, 108, 105, 99]⟩, .string ⟨#[115, 116, 114, 105, 107, 101]⟩]) (.int .i64 1)).run Tryd.prog w = .ok (.string ⟨#[102, 105, 120, 101, 100]⟩) w := by kernel_rfl
theorem idx69_2 (w : World) : (Instr.index 69 (.agg #[.string ⟨#[98, 111, 108, 100]⟩, .string ⟨#[102, 105, 120, 101, 100]⟩, .string ⟨#[105, 116, 97, 108, 105, 99]⟩, .string ⟨#[115, 116, 114, 105, 107, 101]⟩]) (.int .i64 2)).run Tryd.prog w = .ok (.string ⟨#[105, 116, 97, 108, 105, 99]⟩) w := by kernel_rfl
theorem idx69_3 (w : World) : (Instr.index 69 (.agg #[.string ⟨#[98, 111, 108, 100]⟩, .string ⟨#[102, 105, 120, 101, 100]⟩, .string ⟨#[105, 116, 97, 108, 105, 99]⟩, .string ⟨#[115, 116, 114, 105, 107, 101]⟩]) (.int .i64 3)).run Tryd.prog w = .ok (.string ⟨#[115, 116, 114, 105, 107, 101]⟩) w := by kernel_rfl
attribute [local go_sem] idx69_0 idx69_1 idx69_2 idx69_3
/-- what the line holds in memory: the result, the losses, the block of the four attributes -/
structure ML (B : Nat) (W : World) (g : Nat) (vo vl : Value) (x : MS) : Prop where
  o : Kd.R k30 30 W B (fun _ => True) vo x.o
  l : Kd.R k38 38 W B (fun _ => True) vl x.ls
  h : W.heap[g]? = some (.cells #[.bool x.b0, .bool x.b1, .bool x.b2, .bool x.b3] 41 (0, 0))
section
variable {B : Nat} {W W' : World} {g : Nat} {vo vl : Value} {x : MS}
theorem ML.below (h : ML B W g vo vl x) (hb : Below W.heap.size W W') : ML B W' g vo vl x := ⟨Kd.R_below h.o hb, Kd.R_below h.l hb, blk_below h.h hb⟩
theorem ML.alloc (h : ML B W g vo vl x) (o : Obj) : ML B (W.alloc o) g vo vl x := h.below (below_alloc (Below.refl _ _) o)
theorem ML.set (h : ML B W g vo vl x) (i : Nat) (u : Value) (x' : MS) (ho : x'.o = x.o) (hl : x'.ls = x.ls) (hc : (#[.bool x.b0, .bool x.b1, .bool x.b2, .bool x.b3] : Array Value).setIfInBounds i u = #[.bool x'.b0, .bool x'.b1, .bool x'.b2, .bool x'.b3]) : ML B (W.setCell ⟨g, i, none⟩ u) g vo vl x' :=
  ⟨by rw [ho]; exact Kd.R_set h.o h.h (by decide) i u, by rw [hl]; exact Kd.R_set h.l h.h (by decide) i u, blk_put h.h i u hc⟩
theorem ML.cells (h : ML B W g vo vl x) : W.cell? ⟨g, 0, none⟩ = some (.bool x.b0) ∧ W.cell? ⟨g, 1, none⟩ = some (.bool x.b1) ∧ W.cell? ⟨g, 2, none⟩ = some (.bool x.b2) ∧ W.cell? ⟨g, 3, none⟩ = some (.bool x.b3) :=
  ⟨(blk_cell h.h 0).trans rfl, (blk_cell h.h 1).trans rfl, (blk_cell h.h 2).trans rfl, (blk_cell h.h 3).trans rfl⟩
theorem ML.frozen (h : ML B W g vo vl x) (i : Nat) : W.frozen? ⟨g, i, none⟩ = false := blk_frozen h.h i
end
/-- all that the round's ways hold -/
structure MB (B : Nat) (w W : World) (g : Nat) (vo vl : Value) (x : MS) (a : Addr) (l : List S66) (gt : Nat) (t : S66) : Prop where
  ml : ML B W g vo vl x
  tk : TB W a l
  tb : W.heap[gt]? = some (.cells #[.int .i64 t.f0, .int .i64 t.f1, .bool t.f2, .bool t.f3] 66 (0, 0))
  bl : Below w.heap.size w W
section
variable {B : Nat} {w W W' : World} {g : Nat} {vo vl : Value} {x : MS} {a : Addr} {l : List S66} {gt : Nat} {t : S66}
theorem MB.below (h : MB B w W g vo vl x a l gt t) (hb : Below W.heap.size W W') : MB B w W' g vo vl x a l gt t := ⟨h.ml.below hb, h.tk.below hb, blk_below h.tb hb, h.bl.trans (hb.mono h.bl.size)⟩
theorem MB.tc (h : MB B w W g vo vl x a l gt t) : W.cell? ⟨gt, 0, none⟩ = some (.int .i64 t.f0) ∧ W.cell? ⟨gt, 1, none⟩ = some (.int .i64 t.f1) ∧ W.cell? ⟨gt, 2, none⟩ = some (.bool t.f2) ∧ W.cell? ⟨gt, 3, none⟩ = some (.bool t.f3) :=
  ⟨(blk_cell h.tb 0).trans rfl, (blk_cell h.tb 1).trans rfl, (blk_cell h.tb 2).trans rfl, (blk_cell h.tb 3).trans rfl⟩
theorem MB.uc (h : MB B w W g vo vl x a l gt t) {k : Nat} {u : S66} (hu : l[k]? = some u) : W.cell? (a.add (k * 4)) = some (.int .i64 u.f0) ∧ W.cell? ⟨(a.add (k * 4)).block, (a.add (k * 4)).off + 1, none⟩ = some (.int .i64 u.f1) ∧ W.cell? ⟨(a.add (k * 4)).block, (a.add (k * 4)).off + 2, none⟩ = some (.bool u.f2) ∧ W.cell? ⟨(a.add (k * 4)).block, (a.add (k * 4)).off + 3, none⟩ = some (.bool u.f3) :=
  ⟨h.tk.1.c0 k u hu, h.tk.1.c1 k u hu, h.tk.1.c2 k u hu, h.tk.1.c3 k u hu⟩
end
section
variable {B : Nat} {w W W' : World} {g : Nat} {vo vl v : Value} {x : MS} {a : Addr} {l : List S66} {gt : Nat} {t : S66}
theorem MB.appended_l (h : MB B w W g vo vl x a l gt t) {y : S38} (ho : Kd.R k38 38 W' B (fun _ => True) v (x.ls ++ [y])) (hg : W.grownBy W' vl.ownBlock) (hb : Below w.heap.size w W') : MB B w W' g vo v { x with ls := x.ls ++ [y] } a l gt t :=
  ⟨⟨Kd.R_over h.ml.o h.ml.l (by decide) hg, ho, blk_grown h.ml.h hg (Kd.R_ne h.ml.l h.ml.h (by decide))⟩, h.tk.grown hg (Kd.R_ne h.ml.l h.tk.2.choose_spec (by decide)), blk_grown h.tb hg (Kd.R_ne h.ml.l h.tb (by decide)), hb⟩
theorem MB.appended_o (h : MB B w W g vo vl x a l gt t) {y : S30} (ho : Kd.R k30 30 W' B (fun _ => True) v (x.o ++ [y])) (hg : W.grownBy W' vo.ownBlock) (hb : Below w.heap.size w W') : MB B w W' g v vl { x with o := x.o ++ [y] } a l gt t :=
  ⟨⟨ho, Kd.R_over h.ml.l h.ml.o (by decide) hg, blk_grown h.ml.h hg (Kd.R_ne h.ml.o h.ml.h (by decide))⟩, h.tk.grown hg (Kd.R_ne h.ml.o h.tk.2.choose_spec (by decide)), blk_grown h.tb hg (Kd.R_ne h.ml.o h.tb (by decide)), hb⟩
end
set_option maxHeartbeats 16000000 in
set_option maxRecDepth 100000 in
theorem MarkedLine_ok (kt : Nat) (s : ByteArray) (l : List S66) (frm : Int) (w : World) (ht : chanceryref2_tokens.f kt s = some l) (hl : l.length ≤ 1048576) (hf : 0 ≤ frm) (hf1 : frm ≤ 1000000000) :
    Calls Tryd.prog 19 #[.string s, .int .i64 frm] w fun e w' => (∃ vo vl, e = .returned (.tuple #[vo, vl]) ∧ Kd.R k30 30 w' w.heap.size (fun _ => True) vo (mfin l frm m0).o ∧ Kd.R k38 38 w' w.heap.size (fun _ => True) vl (mfin l frm m0).ls) ∧ Below w.heap.size w w' := by
  have HTO := Aside0.mk ht
  clear ht
  go_enter Tryd.func19, Tryd.ntmps19
  go_upto_region 6 with (go_at_call 28; refine (chanceryref2_tokens.calls kt s l _ HTO.out).mono ?_; rintro e w2 ⟨v, rfl, hr, hb⟩)
  obtain ⟨A, cp, rfl, hcp, hC⟩ := Kd.R_reads hr
  have HB2 := Aside0.mk (show Below w.heap.size w w2 from (below_alloc (Below.refl _ _) _).trans (hb.mono (by simp)))
  have HG2 := Aside0.mk (blk_below (blk_new w (.cells #[.bool false, .bool false, .bool false, .bool false] 41)) hb)
  obtain ⟨g, hg⟩ : ∃ g, w.heap.size = g := ⟨_, rfl⟩
  have HGE := Aside0.mk (show w.heap.size ≤ g by omega)
  rw [hg] at HG2
  simp only [hg]
  have HML := Aside0.mk (show ML w.heap.size w2 g (.slice none 0 0) (.slice none 0 0) m0 from ⟨Kd.R_nil _ _ _ _ _, Kd.R_nil _ _ _ _ _, HG2.out⟩)
  have HG := Aside0.mk hg
  have HTB0 := Aside0.mk (fun (a' : Addr) (h : A = some a') => show ∃ cs, w2.heap[a'.block]? = some (.cells cs 66 (0, 0)) by
    obtain ⟨inner, hin⟩ := Kd.R_own hr
    rcases hin.2 with ⟨h1, _⟩ | ⟨gg, cap, cur, h1, _, h2, _⟩
    · rw [h] at h1; cases h1
    · rw [h] at h1; cases h1; exact ⟨cur, h2⟩)
  clear hr hb HG2 hg HTO
  obtain ⟨N, hN⟩ : ∃ N, l.length = N := ⟨_, rfl⟩
  rw [hN] at hl hcp ⊢
  have HC := Aside0.mk hC
  have HN := Aside0.mk hN
  clear hN hC
  by_cases hN0 : N = 0
  · have HQ := Aside0.mk (show mfin l frm m0 = m0 from mfin_done _ _ _ (by rw [HN.out]; show N ≤ 0; omega))
    subst hN0
    go_wp2_with fail
    go_loopg [6, 7, 13] 0 (fun gk v6 v7 v13 wr => v6 = .slice none 0 0 ∧ v7 = .slice none 0 0 ∧ v13 = .int .i64 0 ∧ wr = w2)
    case atStart => exact ⟨rfl, rfl, rfl, rfl⟩
    case round =>
      obtain ⟨rfl, rfl, rfl, rfl⟩ := hrel
      go_wp2_with fail
      go_ret2
      exact ⟨⟨_, _, rfl, by rw [HQ.out]; exact HML.out.o, by rw [HQ.out]; exact HML.out.l⟩, HB2.out⟩
  · have hN1 : 0 < N := by omega
    obtain ⟨a, hA⟩ : ∃ a, A = some a := by
      obtain ⟨ad, e, _⟩ := at_T66 HC.out 0 (Int.le_refl _) (by rw [HN.out]; omega)
      exact ⟨ad, e⟩
    subst hA
    have HT := Aside0.mk (show TB w2 a l from ⟨Tk.of HC.out, HTB0.out a rfl⟩)
    clear hN0 HC
    go_wp2_with fail
    go_loopg [6, 7, 9, 10, 11, 13] N (fun gk v6 v7 v9 v10 v11 v13 wr => ∃ (x : MS), N - x.i ≤ gk ∧ v9 = .string x.k ∧ v10 = .int .i64 x.en ∧ v11 = .int .i64 (x.bh : Int) ∧ v13 = .int .i64 (x.i : Int) ∧ Aside0 (MI l x) ∧ Aside0 (mfin l frm x = mfin l frm m0) ∧ Aside0 (ML w.heap.size wr g v6 v7 x) ∧ Aside0 (TB wr a l) ∧ Aside0 (Below w.heap.size w wr))
    case atStart => exact ⟨m0, by show N - 0 ≤ N; omega, rfl, rfl, rfl, rfl, ⟨MI_m0 l⟩, ⟨rfl⟩, HML, HT, HB2⟩
    case round =>
      clear HML HT HB2
      obtain ⟨x, hgk, rfl, rfl, rfl, rfl, HI, HF, HML, HT, HB⟩ := hrel
      obtain ⟨i, o, ls, b0, b1, b2, b3, k, en, bh⟩ := x
      simp only at hgk ⊢
      have hiN : i ≤ N := by have := HI.out.i; rw [HN.out] at this; exact this
      by_cases hlt : i < N
      · have hil : i < l.length := by rw [HN.out]; exact hlt
        have HS := Aside0.mk (HI.out.step (frm := frm) hil)
        have HFS := Aside0.mk (mfin_step (frm := frm) HI.out hil)
        have HX := Aside0.mk (List.getElem?_eq_getElem hil)
        obtain ⟨t, ht⟩ : ∃ t, l[i]'hil = t := ⟨_, rfl⟩
        rw [ht] at HX
        clear ht hil
        have hkb : decide (i < N) = true := decide_eq_true hlt
        by_cases hen : (i : Int) = en
        · have HEQ := Aside0.mk (show mstep l frm ⟨i, o, ls, b0, b1, b2, b3, k, en, bh⟩ = ⟨bh, o, ls, b0, b1, b2, b3, ⟨#[]⟩, -1, bh⟩ from if_pos hen)
          have heb : ((i : Int) == en) = true := beq_iff_eq.2 hen
          have hbh : i < bh ∧ bh ≤ N := by
            have h1 := HI.out.en
            simp only at h1
            rw [HN.out] at h1
            omega
          obtain ⟨hb1, hb2⟩ := hbh
          clear hen
          go_wp2_with fail
          go_roundg (N - bh)
          case measure => omega
          case rel => exact ⟨⟨bh, o, ls, b0, b1, b2, b3, ⟨#[]⟩, -1, bh⟩, Nat.le_refl _, rfl, rfl, rfl, by go_num, ⟨by rw [← HEQ.out]; exact HS.out.1⟩, ⟨by rw [← HEQ.out, HFS.out, HF.out]⟩, ⟨⟨HML.out.o, HML.out.l, HML.out.h⟩⟩, HT, HB⟩
        · have HMS := Aside0.mk (show mstep l frm ⟨i, o, ls, b0, b1, b2, b3, k, en, bh⟩ = mtok l frm t ⟨i, o, ls, b0, b1, b2, b3, k, en, bh⟩ by
            unfold mstep
            rw [if_neg hen]
            simp only [HX.out])
          have heb : ((i : Int) == en) = false := beq_eq_false_iff_ne.2 hen
          clear hen
          have hkp : ((i : Int) < (N : Int)) = True := eq_true (by omega)
          have x0 := HT.out.1.c0 i t HX.out
          have x1 := HT.out.1.c1 i t HX.out
          have x2 := HT.out.1.c2 i t HX.out
          have x3 := HT.out.1.c3 i t HX.out
          go_upto_block 2 with fail
          have HM := Aside0.mk (show MB w.heap.size w (wr.alloc (.cells #[.int .i64 t.f0, .int .i64 t.f1, .bool t.f2, .bool t.f3] 66)) g u6 u7 ⟨i, o, ls, b0, b1, b2, b3, k, en, bh⟩ a l wr.heap.size t from
            ⟨HML.out.alloc _, HT.out.below (below_alloc (Below.refl _ _) _), blk_new _ _, HB.out.alloc HB.out.size _⟩)
          obtain ⟨gt, hgt⟩ : ∃ gt, wr.heap.size = gt := ⟨_, rfl⟩
          obtain ⟨w3, h3⟩ : ∃ w3, wr.alloc (.cells #[.int .i64 t.f0, .int .i64 t.f1, .bool t.f2, .bool t.f3] 66) = w3 := ⟨_, rfl⟩
          rw [h3, hgt] at HM
          rw [h3]
          simp only [hgt]
          clear h3 hgt HML HT HB x0 x1 x2 x3 wr
          obtain ⟨vo, hvo⟩ : ∃ vo, vo = u6 := ⟨_, rfl⟩
          obtain ⟨vl, hvl⟩ : ∃ vl, vl = u7 := ⟨_, rfl⟩
          subst hvo hvl
          go_cut [9, 10, 11, 13] (fun v9 v10 v11 v13 wc => v9 = .string k ∧ v10 = .int .i64 en ∧ v11 = .int .i64 (bh : Int) ∧ v13 = .int .i64 (i : Int) ∧ Aside0 (MB w.heap.size w wc g vo vl ⟨i, o, ls, b0, b1, b2, b3, k, en, bh⟩ a l gt t) ∧ Aside0 (mtok l frm t ⟨i, o, ls, b0, b1, b2, b3, k, en, bh⟩ = mchar frm t ⟨i, o, ls, b0, b1, b2, b3, k, en, bh⟩))
          case first =>
            as_aux_lemma =>
              obtain ⟨b42, h42⟩ : ∃ b, isT t 42 = b := ⟨_, rfl⟩
              have H42 := Aside0.mk h42
              clear h42
              obtain ⟨n42, hn42⟩ : ∃ b, nxt l i 42 = b := ⟨_, rfl⟩
              have N42 := Aside0.mk hn42
              clear hn42
              go_upto_region 12 with fail
              go_cut [38] (fun v wc => v = .bool (b42 && n42) ∧ Aside0 (MB w.heap.size w wc g vo vl ⟨i, o, ls, b0, b1, b2, b3, k, en, bh⟩ a l gt t))
              case first =>
                obtain ⟨z0, z1, z2, z3⟩ := HM.out.tc
                cases b42
                · go_wp2_with (((go_at_call_of 29 (Value.int IntKind.u8 42)); ((with_reducible refine (is_ok t 42 false H42.out (by decide) (by decide) _).mono ?_); rintro e w6 ⟨rfl, hb6⟩; have HM6 := Aside0.mk (HM.out.below hb6); clear HM hb6; have HM := HM6; clear HM6; obtain ⟨z0, z1, z2, z3⟩ := HM.out.tc)))
                  go_meet
                  case rel => exact ⟨rfl, HM⟩
                · by_cases hi1 : i + 1 < N
                  · have hil : i + 1 < l.length := by rw [HN.out]; exact hi1
                    have HU := Aside0.mk (List.getElem?_eq_getElem hil)
                    obtain ⟨u, hu⟩ : ∃ u, l[i + 1]'hil = u := ⟨_, rfl⟩
                    rw [hu] at HU
                    clear hu hil
                    obtain ⟨bu, hbu⟩ : ∃ b, isT u 42 = b := ⟨_, rfl⟩
                    have HQ := Aside0.mk (show n42 = bu by rw [← N42.out]; unfold nxt; rw [HU.out]; exact hbu)
                    have HBU := Aside0.mk hbu
                    clear hbu
                    have hib : decide ((i : Int) + 1 < (N : Int)) = true := decide_eq_true (by omega)
                    have hip : ((i : Int) + 1 < (N : Int)) = True := eq_true (by omega)
                    go_wp2_with (first | ((go_at_call_of 29 (Value.int IntKind.u8 42)); ((with_reducible refine (is_ok t 42 true H42.out (by decide) (by decide) _).mono ?_); rintro e w6 ⟨rfl, hb6⟩; have HM6 := Aside0.mk (HM.out.below hb6); clear HM hb6; have HM := HM6; clear HM6; obtain ⟨z0, z1, z2, z3⟩ := HM.out.tc; obtain ⟨y0, y1, y2, y3⟩ := HM.out.uc HU.out)) | ((go_at_call_of 29 (Value.int IntKind.u8 42)); ((with_reducible refine (is_ok u 42 bu HBU.out (by decide) (by decide) _).mono ?_); rintro e w6 ⟨rfl, hb6⟩; have HM6 := Aside0.mk (HM.out.below hb6); clear HM hb6; have HM := HM6; clear HM6; obtain ⟨z0, z1, z2, z3⟩ := HM.out.tc)))
                    go_meet
                    case rel => exact ⟨by rw [HQ.out]; rfl, HM⟩
                  · have HQ := Aside0.mk (show n42 = false by rw [← N42.out]; unfold nxt; rw [List.getElem?_eq_none (by rw [HN.out]; omega)])
                    have hib : decide ((i : Int) + 1 < (N : Int)) = false := decide_eq_false (by omega)
                    clear hi1
                    go_wp2_with ((go_at_call_of 29 (Value.int IntKind.u8 42)); ((with_reducible refine (is_ok t 42 true H42.out (by decide) (by decide) _).mono ?_); rintro e w6 ⟨rfl, hb6⟩; have HM6 := Aside0.mk (HM.out.below hb6); clear HM hb6; have HM := HM6; clear HM6; obtain ⟨z0, z1, z2, z3⟩ := HM.out.tc))
                    go_meet
                    case rel => exact ⟨by rw [HQ.out]; rfl, HM⟩
              case rest =>
                clear HM
                obtain ⟨rfl, HM⟩ := hcut
                obtain ⟨bn, hbn⟩ : ∃ b, (b42 && n42) = b := ⟨_, rfl⟩
                have HBN := Aside0.mk (show (isT t 42 && nxt l i 42) = bn by rw [H42.out, N42.out, hbn])
                rw [hbn]
                clear hbn
                cases bn
                · obtain ⟨z0, z1, z2, z3⟩ := HM.out.tc
                  have H42N := Aside0.mk (show ¬(isT t 42 && nxt l i 42) = true by rw [HBN.out]; decide)
                  cases b42
                  · have E42 := Aside0.mk (show ¬isT t 42 = true by rw [H42.out]; decide)
                    obtain ⟨b126, h126⟩ : ∃ b, isT t 126 = b := ⟨_, rfl⟩
                    have H126 := Aside0.mk h126
                    clear h126
                    obtain ⟨n126, hn126⟩ : ∃ b, nxt l i 126 = b := ⟨_, rfl⟩
                    have N126 := Aside0.mk hn126
                    clear hn126
                    go_upto_region 17 with (((go_at_call_of 29 (Value.int IntKind.u8 42)); ((with_reducible refine (is_ok t 42 false H42.out (by decide) (by decide) _).mono ?_); rintro e w6 ⟨rfl, hb6⟩; have HM6 := Aside0.mk (HM.out.below hb6); clear HM hb6; have HM := HM6; clear HM6; obtain ⟨z0, z1, z2, z3⟩ := HM.out.tc)))
                    go_cut [69] (fun v wc => v = .bool (b126 && n126) ∧ Aside0 (MB w.heap.size w wc g vo vl ⟨i, o, ls, b0, b1, b2, b3, k, en, bh⟩ a l gt t))
                    case first =>
                      obtain ⟨z0, z1, z2, z3⟩ := HM.out.tc
                      cases b126
                      · go_wp2_with (((go_at_call_of 29 (Value.int IntKind.u8 126)); ((with_reducible refine (is_ok t 126 false H126.out (by decide) (by decide) _).mono ?_); rintro e w6 ⟨rfl, hb6⟩; have HM6 := Aside0.mk (HM.out.below hb6); clear HM hb6; have HM := HM6; clear HM6; obtain ⟨z0, z1, z2, z3⟩ := HM.out.tc)))
                        go_meet
                        case rel => exact ⟨rfl, HM⟩
                      · by_cases hi1 : i + 1 < N
                        · have hil : i + 1 < l.length := by rw [HN.out]; exact hi1
                          have HU := Aside0.mk (List.getElem?_eq_getElem hil)
                          obtain ⟨u, hu⟩ : ∃ u, l[i + 1]'hil = u := ⟨_, rfl⟩
                          rw [hu] at HU
                          clear hu hil
                          obtain ⟨bu, hbu⟩ : ∃ b, isT u 126 = b := ⟨_, rfl⟩
                          have HQ := Aside0.mk (show n126 = bu by rw [← N126.out]; unfold nxt; rw [HU.out]; exact hbu)
                          have HBU := Aside0.mk hbu
                          clear hbu
                          have hib : decide ((i : Int) + 1 < (N : Int)) = true := decide_eq_true (by omega)
                          have hip : ((i : Int) + 1 < (N : Int)) = True := eq_true (by omega)
                          go_wp2_with (first | ((go_at_call_of 29 (Value.int IntKind.u8 126)); ((with_reducible refine (is_ok t 126 true H126.out (by decide) (by decide) _).mono ?_); rintro e w6 ⟨rfl, hb6⟩; have HM6 := Aside0.mk (HM.out.below hb6); clear HM hb6; have HM := HM6; clear HM6; obtain ⟨z0, z1, z2, z3⟩ := HM.out.tc; obtain ⟨y0, y1, y2, y3⟩ := HM.out.uc HU.out)) | ((go_at_call_of 29 (Value.int IntKind.u8 126)); ((with_reducible refine (is_ok u 126 bu HBU.out (by decide) (by decide) _).mono ?_); rintro e w6 ⟨rfl, hb6⟩; have HM6 := Aside0.mk (HM.out.below hb6); clear HM hb6; have HM := HM6; clear HM6; obtain ⟨z0, z1, z2, z3⟩ := HM.out.tc)))
                          go_meet
                          case rel => exact ⟨by rw [HQ.out]; rfl, HM⟩
                        · have HQ := Aside0.mk (show n126 = false by rw [← N126.out]; unfold nxt; rw [List.getElem?_eq_none (by rw [HN.out]; omega)])
                          have hib : decide ((i : Int) + 1 < (N : Int)) = false := decide_eq_false (by omega)
                          clear hi1
                          go_wp2_with ((go_at_call_of 29 (Value.int IntKind.u8 126)); ((with_reducible refine (is_ok t 126 true H126.out (by decide) (by decide) _).mono ?_); rintro e w6 ⟨rfl, hb6⟩; have HM6 := Aside0.mk (HM.out.below hb6); clear HM hb6; have HM := HM6; clear HM6; obtain ⟨z0, z1, z2, z3⟩ := HM.out.tc))
                          go_meet
                          case rel => exact ⟨by rw [HQ.out]; rfl, HM⟩
                    case rest =>
                      clear HM
                      obtain ⟨rfl, HM⟩ := hcut
                      obtain ⟨bm, hbm⟩ : ∃ b, (b126 && n126) = b := ⟨_, rfl⟩
                      have HBM := Aside0.mk (show (isT t 126 && nxt l i 126) = bm by rw [H126.out, N126.out, hbm])
                      rw [hbm]
                      clear hbm
                      cases bm
                      · have H126N := Aside0.mk (show ¬(isT t 126 && nxt l i 126) = true by rw [HBM.out]; decide)
                        obtain ⟨b96, h96⟩ : ∃ b, isT t 96 = b := ⟨_, rfl⟩
                        have H96 := Aside0.mk h96
                        clear h96
                        obtain ⟨z0, z1, z2, z3⟩ := HM.out.tc
                        cases b96
                        · have E96 := Aside0.mk (show ¬isT t 96 = true by rw [H96.out]; decide)
                          have HMT := Aside0.mk (show mtok l frm t ⟨i, o, ls, b0, b1, b2, b3, k, en, bh⟩ = mtail l frm t ⟨i, o, ls, b0, b1, b2, b3, k, en, bh⟩ by
                            unfold mtok
                            rw [if_neg H42N.out, if_neg E42.out, if_neg H126N.out, if_neg E96.out])
                          obtain ⟨b91, h91⟩ : ∃ b, isT t 91 = b := ⟨_, rfl⟩
                          have H91 := Aside0.mk h91
                          clear h91
                          cases b91
                          · have HQ := Aside0.mk (show mtok l frm t ⟨i, o, ls, b0, b1, b2, b3, k, en, bh⟩ = mchar frm t ⟨i, o, ls, b0, b1, b2, b3, k, en, bh⟩ by
                              rw [HMT.out]; exact mtail_none (if_neg (fun h => by rw [H91.out] at h; exact absurd h.1 (by decide))))
                            go_wp2_with (first | ((go_at_call_of 29 (Value.int IntKind.u8 96)); ((with_reducible refine (is_ok t 96 false H96.out (by decide) (by decide) _).mono ?_); rintro e w6 ⟨rfl, hb6⟩; have HM6 := Aside0.mk (HM.out.below hb6); clear HM hb6; have HM := HM6; clear HM6; obtain ⟨z0, z1, z2, z3⟩ := HM.out.tc)) | ((go_at_call_of 29 (Value.int IntKind.u8 91)); ((with_reducible refine (is_ok t 91 false H91.out (by decide) (by decide) _).mono ?_); rintro e w6 ⟨rfl, hb6⟩; have HM6 := Aside0.mk (HM.out.below hb6); clear HM hb6; have HM := HM6; clear HM6; obtain ⟨z0, z1, z2, z3⟩ := HM.out.tc)))
                            go_meet
                            case rel => exact ⟨rfl, rfl, rfl, rfl, HM, HQ⟩
                          · by_cases hk0 : k.size = 0
                            · have hkb0 : k.toList.isEmpty = true := by rw [str_empty0]; exact decide_eq_true hk0
                              have HML2 := Aside0.mk (show mlnk l t ⟨i, o, ls, b0, b1, b2, b3, k, en, bh⟩ = lkS (l.drop (i + 1)) (i + 1) from if_pos ⟨H91.out, hk0⟩)
                              clear hk0
                              cases hlk : lkS (l.drop (i + 1)) (i + 1) with
                              | none =>
                                have HQ := Aside0.mk (show mtok l frm t ⟨i, o, ls, b0, b1, b2, b3, k, en, bh⟩ = mchar frm t ⟨i, o, ls, b0, b1, b2, b3, k, en, bh⟩ by
                                  rw [HMT.out]; exact mtail_none (HML2.out.trans hlk))
                                have HLV := Aside0.mk (show lkV (lkS (l.drop (i + 1)) (i + 1)) = .tuple #[.string ⟨#[]⟩, .int .i64 0, .int .i64 0] by rw [hlk]; rfl)
                                clear hlk
                                go_wp2_with (first | ((go_at_call_of 29 (Value.int IntKind.u8 96)); ((with_reducible refine (is_ok t 96 false H96.out (by decide) (by decide) _).mono ?_); rintro e w6 ⟨rfl, hb6⟩; have HM6 := Aside0.mk (HM.out.below hb6); clear HM hb6; have HM := HM6; clear HM6; obtain ⟨z0, z1, z2, z3⟩ := HM.out.tc)) | ((go_at_call_of 29 (Value.int IntKind.u8 91)); ((with_reducible refine (is_ok t 91 true H91.out (by decide) (by decide) _).mono ?_); rintro e w6 ⟨rfl, hb6⟩; have HM6 := Aside0.mk (HM.out.below hb6); clear HM hb6; have HM := HM6; clear HM6; obtain ⟨z0, z1, z2, z3⟩ := HM.out.tc)) | ((go_at_call 30); (with_reducible refine (linkAt_okN a cp l N HN.out i _ HM.out.tk.t hlt hl _ HLV.out).mono ?_); rintro e w6 ⟨rfl, hb6⟩; have HM6 := Aside0.mk (HM.out.below hb6); clear HM hb6; have HM := HM6; clear HM6; obtain ⟨z0, z1, z2, z3⟩ := HM.out.tc))
                                go_meet
                                case rel => exact ⟨rfl, rfl, rfl, rfl, HM, HQ⟩
                              | some p =>
                                obtain ⟨b, k', m⟩ := p
                                have hlt3 := lkS_lt _ _ _ _ _ hlk
                                rw [List.length_drop, HN.out] at hlt3
                                have HEQ := Aside0.mk (show mstep l frm ⟨i, o, ls, b0, b1, b2, b3, k, en, bh⟩ = ⟨i + 1, o, ls, b0, b1, b2, b3, ⟨b.toArray⟩, (k' : Int), m⟩ by rw [HMS.out, HMT.out]; exact mtail_some (HML2.out.trans hlk))
                                have HLV := Aside0.mk (show lkV (lkS (l.drop (i + 1)) (i + 1)) = .tuple #[.string ⟨b.toArray⟩, .int .i64 (k' : Int), .int .i64 (m : Int)] by rw [hlk]; rfl)
                                obtain ⟨bb, hbb⟩ : ∃ bb : ByteArray, ⟨b.toArray⟩ = bb := ⟨_, rfl⟩
                                have hbe : bb.toList.isEmpty = false := by rw [str_empty0, ← hbb]; exact decide_eq_false (by show ¬ b.length = 0; omega)
                                rw [hbb] at HEQ HLV
                                clear hlk hbb
                                go_wp2_with (first | ((go_at_call_of 29 (Value.int IntKind.u8 96)); ((with_reducible refine (is_ok t 96 false H96.out (by decide) (by decide) _).mono ?_); rintro e w6 ⟨rfl, hb6⟩; have HM6 := Aside0.mk (HM.out.below hb6); clear HM hb6; have HM := HM6; clear HM6; obtain ⟨z0, z1, z2, z3⟩ := HM.out.tc)) | ((go_at_call_of 29 (Value.int IntKind.u8 91)); ((with_reducible refine (is_ok t 91 true H91.out (by decide) (by decide) _).mono ?_); rintro e w6 ⟨rfl, hb6⟩; have HM6 := Aside0.mk (HM.out.below hb6); clear HM hb6; have HM := HM6; clear HM6; obtain ⟨z0, z1, z2, z3⟩ := HM.out.tc)) | ((go_at_call 30); (with_reducible refine (linkAt_okN a cp l N HN.out i _ HM.out.tk.t hlt hl _ HLV.out).mono ?_); rintro e w6 ⟨rfl, hb6⟩; have HM6 := Aside0.mk (HM.out.below hb6); clear HM hb6; have HM := HM6; clear HM6; obtain ⟨z0, z1, z2, z3⟩ := HM.out.tc))
                                go_roundg (N - (i + 1))
                                case measure => omega
                                case rel => exact ⟨⟨i + 1, o, ls, b0, b1, b2, b3, bb, (k' : Int), m⟩, Nat.le_refl _, rfl, rfl, rfl, by go_num, ⟨by rw [← HEQ.out]; exact HS.out.1⟩, ⟨by rw [← HEQ.out, HFS.out, HF.out]⟩, ⟨⟨HM.out.ml.o, HM.out.ml.l, HM.out.ml.h⟩⟩, ⟨HM.out.tk⟩, ⟨HM.out.bl⟩⟩
                            · have hkb0 : k.toList.isEmpty = false := by rw [str_empty0]; exact decide_eq_false hk0
                              have HQ := Aside0.mk (show mtok l frm t ⟨i, o, ls, b0, b1, b2, b3, k, en, bh⟩ = mchar frm t ⟨i, o, ls, b0, b1, b2, b3, k, en, bh⟩ by
                                rw [HMT.out]; exact mtail_none (if_neg (fun h => hk0 h.2)))
                              clear hk0
                              go_wp2_with (first | ((go_at_call_of 29 (Value.int IntKind.u8 96)); ((with_reducible refine (is_ok t 96 false H96.out (by decide) (by decide) _).mono ?_); rintro e w6 ⟨rfl, hb6⟩; have HM6 := Aside0.mk (HM.out.below hb6); clear HM hb6; have HM := HM6; clear HM6; obtain ⟨z0, z1, z2, z3⟩ := HM.out.tc)) | ((go_at_call_of 29 (Value.int IntKind.u8 91)); ((with_reducible refine (is_ok t 91 true H91.out (by decide) (by decide) _).mono ?_); rintro e w6 ⟨rfl, hb6⟩; have HM6 := Aside0.mk (HM.out.below hb6); clear HM hb6; have HM := HM6; clear HM6; obtain ⟨z0, z1, z2, z3⟩ := HM.out.tc)))
                              go_meet
                              case rel => exact ⟨rfl, rfl, rfl, rfl, HM, HQ⟩
                        · go_upto_region 21 with (((go_at_call_of 29 (Value.int IntKind.u8 96)); ((with_reducible refine (is_ok t 96 true H96.out (by decide) (by decide) _).mono ?_); rintro e w6 ⟨rfl, hb6⟩; have HM6 := Aside0.mk (HM.out.below hb6); clear HM hb6; have HM := HM6; clear HM6; obtain ⟨z0, z1, z2, z3⟩ := HM.out.tc)))
                          have HEQ := Aside0.mk (show mstep l frm ⟨i, o, ls, b0, b1, b2, b3, k, en, bh⟩ = ⟨i + 1, o, ls, b0, !b1, b2, b3, k, en, bh⟩ by rw [HMS.out]; exact (if_neg H42N.out).trans ((if_neg E42.out).trans ((if_neg H126N.out).trans (if_pos H96.out))))
                          obtain ⟨q0, q1, q2, q3⟩ := HM.out.ml.cells
                          have qf := HM.out.ml.frozen 1
                          have HM2 := Aside0.mk (HM.out.ml.set 1 (.bool (!b1)) ⟨i + 1, o, ls, b0, !b1, b2, b3, k, en, bh⟩ rfl rfl rfl)
                          have HT2 := Aside0.mk (show TB (w6.setCell ⟨g, 1, none⟩ (.bool (!b1))) a l from HM.out.tk.set HM.out.ml.h)
                          have HB2 := Aside0.mk (HM.out.bl.setCell (p := ⟨g, 1, none⟩) HGE.out (.bool (!b1)))
                          go_wp2_with fail
                          go_roundg (N - (i + 1))
                          case measure => omega
                          case rel => exact ⟨⟨i + 1, o, ls, b0, !b1, b2, b3, k, en, bh⟩, Nat.le_refl _, rfl, rfl, rfl, by go_num, ⟨by rw [← HEQ.out]; exact HS.out.1⟩, ⟨by rw [← HEQ.out, HFS.out, HF.out]⟩, HM2, HT2, HB2⟩
                      · have hi2 : i + 1 < N := by have := nxt_lt (Bool.and_eq_true_iff.1 HBM.out).2; rw [HN.out] at this; exact this
                        have HEQ := Aside0.mk (show mstep l frm ⟨i, o, ls, b0, b1, b2, b3, k, en, bh⟩ = ⟨i + 2, o, ls, b0, b1, b2, !b3, k, en, bh⟩ by rw [HMS.out]; exact (if_neg H42N.out).trans ((if_neg E42.out).trans (if_pos HBM.out)))
                        obtain ⟨q0, q1, q2, q3⟩ := HM.out.ml.cells
                        have qf := HM.out.ml.frozen 3
                        have HM2 := Aside0.mk (HM.out.ml.set 3 (.bool (!b3)) ⟨i + 2, o, ls, b0, b1, b2, !b3, k, en, bh⟩ rfl rfl rfl)
                        have HT2 := Aside0.mk (show TB (wc.setCell ⟨g, 3, none⟩ (.bool (!b3))) a l from HM.out.tk.set HM.out.ml.h)
                        have HB2 := Aside0.mk (HM.out.bl.setCell (p := ⟨g, 3, none⟩) HGE.out (.bool (!b3)))
                        go_wp2_with fail
                        go_roundg (N - (i + 2))
                        case measure => omega
                        case rel => exact ⟨⟨i + 2, o, ls, b0, b1, b2, !b3, k, en, bh⟩, Nat.le_refl _, rfl, rfl, rfl, by go_num, ⟨by rw [← HEQ.out]; exact HS.out.1⟩, ⟨by rw [← HEQ.out, HFS.out, HF.out]⟩, HM2, HT2, HB2⟩
                  · obtain ⟨z0, z1, z2, z3⟩ := HM.out.tc
                    go_upto_region 16 with (((go_at_call_of 29 (Value.int IntKind.u8 42)); ((with_reducible refine (is_ok t 42 true H42.out (by decide) (by decide) _).mono ?_); rintro e w6 ⟨rfl, hb6⟩; have HM6 := Aside0.mk (HM.out.below hb6); clear HM hb6; have HM := HM6; clear HM6; obtain ⟨z0, z1, z2, z3⟩ := HM.out.tc)))
                    have HEQ := Aside0.mk (show mstep l frm ⟨i, o, ls, b0, b1, b2, b3, k, en, bh⟩ = ⟨i + 1, o, ls, b0, b1, !b2, b3, k, en, bh⟩ by rw [HMS.out]; exact (if_neg H42N.out).trans (if_pos H42.out))
                    obtain ⟨q0, q1, q2, q3⟩ := HM.out.ml.cells
                    have qf := HM.out.ml.frozen 2
                    have HM2 := Aside0.mk (HM.out.ml.set 2 (.bool (!b2)) ⟨i + 1, o, ls, b0, b1, !b2, b3, k, en, bh⟩ rfl rfl rfl)
                    have HT2 := Aside0.mk (show TB (w6.setCell ⟨g, 2, none⟩ (.bool (!b2))) a l from HM.out.tk.set HM.out.ml.h)
                    have HB2 := Aside0.mk (HM.out.bl.setCell (p := ⟨g, 2, none⟩) HGE.out (.bool (!b2)))
                    go_wp2_with fail
                    go_roundg (N - (i + 1))
                    case measure => omega
                    case rel => exact ⟨⟨i + 1, o, ls, b0, b1, !b2, b3, k, en, bh⟩, Nat.le_refl _, rfl, rfl, rfl, by go_num, ⟨by rw [← HEQ.out]; exact HS.out.1⟩, ⟨by rw [← HEQ.out, HFS.out, HF.out]⟩, HM2, HT2, HB2⟩
                · have hi2 : i + 1 < N := by have := nxt_lt (Bool.and_eq_true_iff.1 HBN.out).2; rw [HN.out] at this; exact this
                  have HEQ := Aside0.mk (show mstep l frm ⟨i, o, ls, b0, b1, b2, b3, k, en, bh⟩ = ⟨i + 2, o, ls, !b0, b1, b2, b3, k, en, bh⟩ by rw [HMS.out]; exact if_pos HBN.out)
                  obtain ⟨q0, q1, q2, q3⟩ := HM.out.ml.cells
                  have qf := HM.out.ml.frozen 0
                  have HM2 := Aside0.mk (HM.out.ml.set 0 (.bool (!b0)) ⟨i + 2, o, ls, !b0, b1, b2, b3, k, en, bh⟩ rfl rfl rfl)
                  have HT2 := Aside0.mk (show TB (wc.setCell ⟨g, 0, none⟩ (.bool (!b0))) a l from HM.out.tk.set HM.out.ml.h)
                  have HB2 := Aside0.mk (HM.out.bl.setCell (p := ⟨g, 0, none⟩) HGE.out (.bool (!b0)))
                  go_wp2_with fail
                  go_roundg (N - (i + 2))
                  case measure => omega
                  case rel => exact ⟨⟨i + 2, o, ls, !b0, b1, b2, b3, k, en, bh⟩, Nat.le_refl _, rfl, rfl, rfl, by go_num, ⟨by rw [← HEQ.out]; exact HS.out.1⟩, ⟨by rw [← HEQ.out, HFS.out, HF.out]⟩, HM2, HT2, HB2⟩
          case rest =>
              clear HM
              obtain ⟨rfl, rfl, rfl, rfl, HM, HQ⟩ := hcut
              have HEQ := Aside0.mk (show mstep l frm ⟨i, o, ls, b0, b1, b2, b3, k, en, bh⟩ = mchar frm t ⟨i, o, ls, b0, b1, b2, b3, k, en, bh⟩ by rw [HMS.out]; exact HQ.out)
              clear HQ HMS
              have HLO := Aside0.mk (show o.length ≤ i from HI.out.o)
              have HLL := Aside0.mk (show ls.length ≤ i from HI.out.l)
              obtain ⟨z0, z1, z2, z3⟩ := HM.out.tc
              go_upto_if 120 with fail
              go_cut [7] (fun v7 wd => Aside0 (MB w.heap.size w wd g vo v7 ⟨i, o, if t.f3 = true then ls ++ [⟨5, 0, frm + (o.length : Int), 0, ⟨#[]⟩⟩] else ls, b0, b1, b2, b3, k, en, bh⟩ a l gt t))
              case first =>
                obtain ⟨bad, hbad⟩ : ∃ b, t.f3 = b := ⟨_, rfl⟩
                have HBA := Aside0.mk hbad
                rw [hbad]
                clear hbad z0 z1 z2 z3
                cases bad
                · go_wp2_with fail
                  go_meet
                  case rel => exact ⟨by rw [if_neg (by rw [HBA.out]; decide)]; exact HM.out⟩
                · obtain ⟨Ao, co, rfl⟩ := Kd.R_slice HM.out.ml.o
                  have hfo : frm + (o.length : Int) ≤ 9223372036854775807 := by have := HLO.out; omega
                  go_wp2_with (at_builtin; refine Kd.R_append k38 (w0 := w) w.heap.size rfl (.tmp 121) (.tmp 127) 23 38 _ 48 rfl Tryd.underlying23 info38m rfl (by decide) (by decide) vl ls ⟨5, 0, frm + (o.length : Int), 0, ⟨#[]⟩⟩ [.int .i64 5, .int .i64 0, .int .i64 (frm + (o.length : Int)), .int .i64 0, .string ⟨#[]⟩] (fun _ => True) (fun _ => False) rfl rfl (k38_mkM _ _ _ _) (fun _ h => h.elim) (fun _ _ => trivial) HM.out.ml.l HM.out.bl HM.out.bl.size (by have := HLL.out; omega) ?_; intro v5 w5 ho5 hb5 hg5 hat5; have HM5 := Aside0.mk (HM.out.appended_l ho5 hg5 hb5); clear ho5 hb5 hg5 hat5)
                  go_meet
                  case rel => exact ⟨by rw [if_pos HBA.out]; exact HM5.out⟩
              case rest =>
                clear HM z0 z1 z2 z3
                have HM := hcut
                clear hcut
                obtain ⟨z0, z1, z2, z3⟩ := HM.out.tc
                obtain ⟨ls', hls'⟩ : ∃ q, (if t.f3 = true then ls ++ [(⟨5, 0, frm + (o.length : Int), 0, ⟨#[]⟩⟩ : S38)] else ls) = q := ⟨_, rfl⟩
                rw [hls'] at HM
                have HEQ := Aside0.mk (show mstep l frm ⟨i, o, ls, b0, b1, b2, b3, k, en, bh⟩ = ⟨i + 1, o ++ [⟨t.f0, 0, mat4 ⟨i, o, ls', b0, b1, b2, b3, k, en, bh⟩⟩], ls', b0, b1, b2, b3, k, en, bh⟩ by rw [HEQ.out, ← hls']; rfl)
                obtain ⟨at1, hat1⟩ : ∃ q, mat1 ⟨i, o, ls', b0, b1, b2, b3, k, en, bh⟩ = q := ⟨_, rfl⟩
                obtain ⟨at2, hat2⟩ : ∃ q, mat2 ⟨i, o, ls', b0, b1, b2, b3, k, en, bh⟩ = q := ⟨_, rfl⟩
                obtain ⟨at3, hat3⟩ : ∃ q, mat3 ⟨i, o, ls', b0, b1, b2, b3, k, en, bh⟩ = q := ⟨_, rfl⟩
                obtain ⟨atl, hatl⟩ : ∃ q, mat3l ⟨i, o, ls', b0, b1, b2, b3, k, en, bh⟩ = q := ⟨_, rfl⟩
                obtain ⟨at4, hat4⟩ : ∃ q, mat4 ⟨i, o, ls', b0, b1, b2, b3, k, en, bh⟩ = q := ⟨_, rfl⟩
                have HAL := Aside0.mk (show at1.length ≤ 4 ∧ at2.length ≤ 4 ∧ at3.length ≤ 4 ∧ atl.length ≤ 4 ∧ at4.length ≤ 5 by
                  have := mat_len ⟨i, o, ls', b0, b1, b2, b3, k, en, bh⟩
                  rw [hat1, hat2, hat3, hatl, hat4] at this
                  omega)
                have E1 := Aside0.mk (show at1 = [] ++ if b0 then [⟨nmB, sOn⟩] else [] from hat1.symm)
                have E2 := Aside0.mk (show at2 = at1 ++ if b1 then [⟨nmF, sOn⟩] else [] by rw [← hat1, ← hat2]; rfl)
                have E3 := Aside0.mk (show at3 = at2 ++ if b2 then [⟨nmI, sOn⟩] else [] by rw [← hat2, ← hat3]; rfl)
                have EL := Aside0.mk (show atl = at3 ++ if k.size = 0 then [] else [⟨sLink, k⟩] by rw [← hat3, ← hatl]; rfl)
                have E4 := Aside0.mk (show at4 = atl ++ if b3 then [⟨nmS, sOn⟩] else [] by rw [← hatl, ← hat4]; rfl)
                rw [hat4] at HEQ
                clear hls' hat1 hat2 hat3 hatl hat4
                obtain ⟨wx, rfl⟩ : ∃ wx : World, wx = wc := ⟨_, rfl⟩
                have HX := Aside0.mk (blk_new wx (.cells #[.int .i64 t.f0, .int .i64 0, .slice none 0 0] 30))
                have HBX := Aside0.mk (below_alloc (Below.refl wx.heap.size wx) (.cells #[.int .i64 t.f0, .int .i64 0, .slice none 0 0] 30))
                go_upto_block 3 with fail
                obtain ⟨gx, hgx⟩ : ∃ gx, wx.heap.size = gx := ⟨_, rfl⟩
                obtain ⟨w3, h3⟩ : ∃ w3, wx.alloc (.cells #[.int .i64 t.f0, .int .i64 0, .slice none 0 0] 30) = w3 := ⟨_, rfl⟩
                rw [h3, hgx] at HX HBX
                rw [h3]
                simp only [hgx]
                have HGX := Aside0.mk hgx
                clear h3 hgx z0 z1 z2 z3
                go_wp2_with fail
                go_loopg [133] 4 (fun gk v133 wr => ∃ (kk : Nat) (va : Value), kk ≤ 4 ∧ 4 - kk ≤ gk ∧ v133 = .int .i64 (kk : Int) ∧ Aside0 (Kd.R k32 32 wr gx (fun _ => True) va ([([] : List S32), at1, at2, at3, at4].getD kk [])) ∧ Aside0 (wr.heap[gx]? = some (.cells #[.int .i64 t.f0, .int .i64 0, va] 30 (0, 0))) ∧ Aside0 (Below gx wx wr))
                case atStart => exact ⟨0, _, by omega, by omega, rfl, ⟨Kd.R_nil _ _ _ _ _⟩, HX, HBX⟩
                case round =>
                  clear HX HBX
                  obtain ⟨kk, va, hk4, hgk4, rfl, HA, HX, HBX⟩ := hrel
                  have K : kk = 0 ∨ kk = 1 ∨ kk = 2 ∨ kk = 3 ∨ kk = 4 := by omega
                  rcases K with rfl | rfl | rfl | rfl | rfl
                  · have HA := Aside0.mk (show Kd.R k32 32 wr gx (fun _ => True) va ([] : List S32) from HA.out)
                    obtain ⟨Av, cv, rfl⟩ := Kd.R_slice HA.out
                    have q0 : wr.cell? ⟨g, 0, none⟩ = some (.bool b0) := (blk_cell (blk_below HM.out.ml.h (HGX.out ▸ HBX.out)) 0).trans rfl
                    have x2 : wr.cell? ⟨gx, 2, none⟩ = some (.slice Av (([] : List S32)).length cv) := (blk_cell HX.out 2).trans rfl
                    cases b0
                    · go_wp2_with fail
                      go_roundg (4 - (0 + 1))
                      case measure => omega
                      case rel => exact ⟨0 + 1, _, by omega, by omega, by go_num, ⟨by have h := E1.out; rw [if_neg (by decide), List.append_nil] at h; show Kd.R k32 32 wr gx (fun _ => True) _ at1; rw [h]; exact HA.out⟩, HX, HBX⟩
                    · go_wp2_with (at_builtin; refine Kd.R_append k32 (w0 := wx) gx rfl (.tmp 154) (.tmp 157) 28 32 _ 32 rfl Tryd.underlying28 info32m rfl (by decide) (by decide) (.slice Av (([] : List S32)).length cv) ([] : List S32) ⟨⟨#[98, 111, 108, 100]⟩, ⟨#[111, 110]⟩⟩ [.string ⟨#[98, 111, 108, 100]⟩, .string ⟨#[111, 110]⟩] (fun _ => True) (fun _ => False) rfl rfl (k32_mkM _ _ _ _) (fun _ h => h.elim) (fun _ _ => trivial) HA.out HBX.out (Nat.le_trans (Nat.le_of_eq HGX.out.symm) HBX.out.size) (by have := HAL.out; (first | omega | (simp only [List.length_nil]; omega))) ?_; intro v5 w5 ho5 hb5 hg5 hat5; obtain ⟨A5, c5, hv5⟩ := Kd.R_slice ho5; obtain ⟨n5, hn5⟩ : ∃ n5, ((([] : List S32)) ++ [(⟨⟨#[98, 111, 108, 100]⟩, ⟨#[111, 110]⟩⟩ : S32)]).length = n5 := ⟨_, rfl⟩; rw [hn5] at hv5; subst hv5; clear hn5; have hX5 := blk_grown HX.out hg5 (Kd.R_ne HA.out HX.out (by decide)); have x2 : w5.cell? ⟨gx, 2, none⟩ = some (.slice Av (([] : List S32)).length cv) := (blk_cell hX5 2).trans rfl; have xf : w5.frozen? ⟨gx, 2, none⟩ = false := blk_frozen hX5 2; have HA5 := Aside0.mk (Kd.R_set ho5 hX5 (by decide) 2 (.slice A5 n5 c5)); have HX5 := Aside0.mk (blk_put hX5 2 (.slice A5 n5 c5) rfl); have HBX5 := Aside0.mk (hb5.setCell (p := ⟨gx, 2, none⟩) (Nat.le_refl gx) (.slice A5 n5 c5)); clear ho5 hb5 hg5 hat5 hX5)
                      go_roundg (4 - (0 + 1))
                      case measure => omega
                      case rel => exact ⟨0 + 1, _, by omega, by omega, by go_num, ⟨by have h := E1.out; rw [if_pos trivial] at h; show Kd.R k32 32 _ gx (fun _ => True) _ at1; rw [h]; exact HA5.out⟩, HX5, HBX5⟩
                  · have HA := Aside0.mk (show Kd.R k32 32 wr gx (fun _ => True) va at1 from HA.out)
                    obtain ⟨Av, cv, rfl⟩ := Kd.R_slice HA.out
                    have q1 : wr.cell? ⟨g, 1, none⟩ = some (.bool b1) := (blk_cell (blk_below HM.out.ml.h (HGX.out ▸ HBX.out)) 1).trans rfl
                    have x2 : wr.cell? ⟨gx, 2, none⟩ = some (.slice Av (at1).length cv) := (blk_cell HX.out 2).trans rfl
                    cases b1
                    · go_wp2_with fail
                      go_roundg (4 - (1 + 1))
                      case measure => omega
                      case rel => exact ⟨1 + 1, _, by omega, by omega, by go_num, ⟨by have h := E2.out; rw [if_neg (by decide), List.append_nil] at h; show Kd.R k32 32 wr gx (fun _ => True) _ at2; rw [h]; exact HA.out⟩, HX, HBX⟩
                    · go_wp2_with (at_builtin; refine Kd.R_append k32 (w0 := wx) gx rfl (.tmp 154) (.tmp 157) 28 32 _ 32 rfl Tryd.underlying28 info32m rfl (by decide) (by decide) (.slice Av (at1).length cv) at1 ⟨⟨#[102, 105, 120, 101, 100]⟩, ⟨#[111, 110]⟩⟩ [.string ⟨#[102, 105, 120, 101, 100]⟩, .string ⟨#[111, 110]⟩] (fun _ => True) (fun _ => False) rfl rfl (k32_mkM _ _ _ _) (fun _ h => h.elim) (fun _ _ => trivial) HA.out HBX.out (Nat.le_trans (Nat.le_of_eq HGX.out.symm) HBX.out.size) (by have := HAL.out; (first | omega | (simp only [List.length_nil]; omega))) ?_; intro v5 w5 ho5 hb5 hg5 hat5; obtain ⟨A5, c5, hv5⟩ := Kd.R_slice ho5; obtain ⟨n5, hn5⟩ : ∃ n5, ((at1) ++ [(⟨⟨#[102, 105, 120, 101, 100]⟩, ⟨#[111, 110]⟩⟩ : S32)]).length = n5 := ⟨_, rfl⟩; rw [hn5] at hv5; subst hv5; clear hn5; have hX5 := blk_grown HX.out hg5 (Kd.R_ne HA.out HX.out (by decide)); have x2 : w5.cell? ⟨gx, 2, none⟩ = some (.slice Av (at1).length cv) := (blk_cell hX5 2).trans rfl; have xf : w5.frozen? ⟨gx, 2, none⟩ = false := blk_frozen hX5 2; have HA5 := Aside0.mk (Kd.R_set ho5 hX5 (by decide) 2 (.slice A5 n5 c5)); have HX5 := Aside0.mk (blk_put hX5 2 (.slice A5 n5 c5) rfl); have HBX5 := Aside0.mk (hb5.setCell (p := ⟨gx, 2, none⟩) (Nat.le_refl gx) (.slice A5 n5 c5)); clear ho5 hb5 hg5 hat5 hX5)
                      go_roundg (4 - (1 + 1))
                      case measure => omega
                      case rel => exact ⟨1 + 1, _, by omega, by omega, by go_num, ⟨by have h := E2.out; rw [if_pos trivial] at h; show Kd.R k32 32 _ gx (fun _ => True) _ at2; rw [h]; exact HA5.out⟩, HX5, HBX5⟩
                  · have HA := Aside0.mk (show Kd.R k32 32 wr gx (fun _ => True) va at2 from HA.out)
                    obtain ⟨Av, cv, rfl⟩ := Kd.R_slice HA.out
                    have q2 : wr.cell? ⟨g, 2, none⟩ = some (.bool b2) := (blk_cell (blk_below HM.out.ml.h (HGX.out ▸ HBX.out)) 2).trans rfl
                    have x2 : wr.cell? ⟨gx, 2, none⟩ = some (.slice Av (at2).length cv) := (blk_cell HX.out 2).trans rfl
                    cases b2
                    · go_wp2_with fail
                      go_roundg (4 - (2 + 1))
                      case measure => omega
                      case rel => exact ⟨2 + 1, _, by omega, by omega, by go_num, ⟨by have h := E3.out; rw [if_neg (by decide), List.append_nil] at h; show Kd.R k32 32 wr gx (fun _ => True) _ at3; rw [h]; exact HA.out⟩, HX, HBX⟩
                    · go_wp2_with (at_builtin; refine Kd.R_append k32 (w0 := wx) gx rfl (.tmp 154) (.tmp 157) 28 32 _ 32 rfl Tryd.underlying28 info32m rfl (by decide) (by decide) (.slice Av (at2).length cv) at2 ⟨⟨#[105, 116, 97, 108, 105, 99]⟩, ⟨#[111, 110]⟩⟩ [.string ⟨#[105, 116, 97, 108, 105, 99]⟩, .string ⟨#[111, 110]⟩] (fun _ => True) (fun _ => False) rfl rfl (k32_mkM _ _ _ _) (fun _ h => h.elim) (fun _ _ => trivial) HA.out HBX.out (Nat.le_trans (Nat.le_of_eq HGX.out.symm) HBX.out.size) (by have := HAL.out; (first | omega | (simp only [List.length_nil]; omega))) ?_; intro v5 w5 ho5 hb5 hg5 hat5; obtain ⟨A5, c5, hv5⟩ := Kd.R_slice ho5; obtain ⟨n5, hn5⟩ : ∃ n5, ((at2) ++ [(⟨⟨#[105, 116, 97, 108, 105, 99]⟩, ⟨#[111, 110]⟩⟩ : S32)]).length = n5 := ⟨_, rfl⟩; rw [hn5] at hv5; subst hv5; clear hn5; have hX5 := blk_grown HX.out hg5 (Kd.R_ne HA.out HX.out (by decide)); have x2 : w5.cell? ⟨gx, 2, none⟩ = some (.slice Av (at2).length cv) := (blk_cell hX5 2).trans rfl; have xf : w5.frozen? ⟨gx, 2, none⟩ = false := blk_frozen hX5 2; have HA5 := Aside0.mk (Kd.R_set ho5 hX5 (by decide) 2 (.slice A5 n5 c5)); have HX5 := Aside0.mk (blk_put hX5 2 (.slice A5 n5 c5) rfl); have HBX5 := Aside0.mk (hb5.setCell (p := ⟨gx, 2, none⟩) (Nat.le_refl gx) (.slice A5 n5 c5)); clear ho5 hb5 hg5 hat5 hX5)
                      go_roundg (4 - (2 + 1))
                      case measure => omega
                      case rel => exact ⟨2 + 1, _, by omega, by omega, by go_num, ⟨by have h := E3.out; rw [if_pos trivial] at h; show Kd.R k32 32 _ gx (fun _ => True) _ at3; rw [h]; exact HA5.out⟩, HX5, HBX5⟩
                  · have HA := Aside0.mk (show Kd.R k32 32 wr gx (fun _ => True) va at3 from HA.out)
                    go_upto_region 32 with fail
                    go_cut [142] (fun v142 wd => v142 = .bool (decide (k.size ≠ 0)) ∧ wd = wr)
                    case first =>
                      by_cases hk0 : k.size = 0
                      · have hkb0 : k.toList.isEmpty = true := by rw [str_empty0]; exact decide_eq_true hk0
                        have HQ := Aside0.mk (show decide (k.size ≠ 0) = false from decide_eq_false (fun h => h hk0))
                        clear hk0
                        go_wp2_with fail
                        go_meet
                        case rel => exact ⟨by rw [HQ.out], rfl⟩
                      · have hkb0 : k.toList.isEmpty = false := by rw [str_empty0]; exact decide_eq_false hk0
                        have HQ := Aside0.mk (show decide (k.size ≠ 0) = true from decide_eq_true hk0)
                        clear hk0
                        go_wp2_with fail
                        go_meet
                        case rel => exact ⟨by rw [HQ.out], rfl⟩
                    case rest =>
                      obtain ⟨rfl, rfl⟩ := hcut
                      go_upto_if 142 with fail
                      go_cut [] (fun we => ∃ va', Aside0 (Kd.R k32 32 we gx (fun _ => True) va' atl) ∧ Aside0 (we.heap[gx]? = some (.cells #[.int .i64 t.f0, .int .i64 0, va'] 30 (0, 0))) ∧ Aside0 (Below gx wx we))
                      case first =>
                        obtain ⟨Av, cv, rfl⟩ := Kd.R_slice HA.out
                        have x2 : wc.cell? ⟨gx, 2, none⟩ = some (.slice Av (at3).length cv) := (blk_cell HX.out 2).trans rfl
                        by_cases hk0 : k.size = 0
                        · have HQ := Aside0.mk (show atl = at3 by have h := EL.out; rwa [if_pos hk0, List.append_nil] at h)
                          rw [show decide (k.size ≠ 0) = false from decide_eq_false (fun h => h hk0)]
                          clear hk0
                          go_wp2_with fail
                          go_meet
                          case rel => exact ⟨_, ⟨by rw [HQ.out]; exact HA.out⟩, HX, HBX⟩
                        · have HQ := Aside0.mk (show atl = at3 ++ [⟨sLink, k⟩] by have h := EL.out; rwa [if_neg hk0] at h)
                          rw [show decide (k.size ≠ 0) = true from decide_eq_true hk0]
                          clear hk0
                          go_wp2_with (at_builtin; refine Kd.R_append k32 (w0 := wx) gx rfl (.tmp 144) (.tmp 147) 28 32 _ 32 rfl Tryd.underlying28 info32m rfl (by decide) (by decide) (.slice Av (at3).length cv) at3 ⟨⟨#[108, 105, 110, 107]⟩, k⟩ [.string ⟨#[108, 105, 110, 107]⟩, .string k] (fun _ => True) (fun _ => False) rfl rfl (k32_mkM _ _ _ _) (fun _ h => h.elim) (fun _ _ => trivial) HA.out HBX.out (Nat.le_trans (Nat.le_of_eq HGX.out.symm) HBX.out.size) (by have := HAL.out; (first | omega | (simp only [List.length_nil]; omega))) ?_; intro v5 w5 ho5 hb5 hg5 hat5; obtain ⟨A5, c5, hv5⟩ := Kd.R_slice ho5; obtain ⟨n5, hn5⟩ : ∃ n5, ((at3) ++ [(⟨⟨#[108, 105, 110, 107]⟩, k⟩ : S32)]).length = n5 := ⟨_, rfl⟩; rw [hn5] at hv5; subst hv5; clear hn5; have hX5 := blk_grown HX.out hg5 (Kd.R_ne HA.out HX.out (by decide)); have x2 : w5.cell? ⟨gx, 2, none⟩ = some (.slice Av (at3).length cv) := (blk_cell hX5 2).trans rfl; have xf : w5.frozen? ⟨gx, 2, none⟩ = false := blk_frozen hX5 2; have HA5 := Aside0.mk (Kd.R_set ho5 hX5 (by decide) 2 (.slice A5 n5 c5)); have HX5 := Aside0.mk (blk_put hX5 2 (.slice A5 n5 c5) rfl); have HBX5 := Aside0.mk (hb5.setCell (p := ⟨gx, 2, none⟩) (Nat.le_refl gx) (.slice A5 n5 c5)); clear ho5 hb5 hg5 hat5 hX5)
                          go_meet
                          case rel => exact ⟨_, ⟨by rw [HQ.out]; exact HA5.out⟩, HX5, HBX5⟩
                      case rest =>
                        clear HA HX HBX
                        obtain ⟨va, HA, HX, HBX⟩ := hcut
                        obtain ⟨Av, cv, rfl⟩ := Kd.R_slice HA.out
                        have q3 : wc.cell? ⟨g, 3, none⟩ = some (.bool b3) := (blk_cell (blk_below HM.out.ml.h (HGX.out ▸ HBX.out)) 3).trans rfl
                        have x2 : wc.cell? ⟨gx, 2, none⟩ = some (.slice Av (atl).length cv) := (blk_cell HX.out 2).trans rfl
                        cases b3
                        · go_wp2_with fail
                          go_roundg (4 - (3 + 1))
                          case measure => omega
                          case rel => exact ⟨3 + 1, _, by omega, by omega, by go_num, ⟨by have h := E4.out; rw [if_neg (by decide), List.append_nil] at h; show Kd.R k32 32 wc gx (fun _ => True) _ at4; rw [h]; exact HA.out⟩, HX, HBX⟩
                        · go_wp2_with (at_builtin; refine Kd.R_append k32 (w0 := wx) gx rfl (.tmp 154) (.tmp 157) 28 32 _ 32 rfl Tryd.underlying28 info32m rfl (by decide) (by decide) (.slice Av (atl).length cv) atl ⟨⟨#[115, 116, 114, 105, 107, 101]⟩, ⟨#[111, 110]⟩⟩ [.string ⟨#[115, 116, 114, 105, 107, 101]⟩, .string ⟨#[111, 110]⟩] (fun _ => True) (fun _ => False) rfl rfl (k32_mkM _ _ _ _) (fun _ h => h.elim) (fun _ _ => trivial) HA.out HBX.out (Nat.le_trans (Nat.le_of_eq HGX.out.symm) HBX.out.size) (by have := HAL.out; (first | omega | (simp only [List.length_nil]; omega))) ?_; intro v5 w5 ho5 hb5 hg5 hat5; obtain ⟨A5, c5, hv5⟩ := Kd.R_slice ho5; obtain ⟨n5, hn5⟩ : ∃ n5, ((atl) ++ [(⟨⟨#[115, 116, 114, 105, 107, 101]⟩, ⟨#[111, 110]⟩⟩ : S32)]).length = n5 := ⟨_, rfl⟩; rw [hn5] at hv5; subst hv5; clear hn5; have hX5 := blk_grown HX.out hg5 (Kd.R_ne HA.out HX.out (by decide)); have x2 : w5.cell? ⟨gx, 2, none⟩ = some (.slice Av (atl).length cv) := (blk_cell hX5 2).trans rfl; have xf : w5.frozen? ⟨gx, 2, none⟩ = false := blk_frozen hX5 2; have HA5 := Aside0.mk (Kd.R_set ho5 hX5 (by decide) 2 (.slice A5 n5 c5)); have HX5 := Aside0.mk (blk_put hX5 2 (.slice A5 n5 c5) rfl); have HBX5 := Aside0.mk (hb5.setCell (p := ⟨gx, 2, none⟩) (Nat.le_refl gx) (.slice A5 n5 c5)); clear ho5 hb5 hg5 hat5 hX5)
                          go_roundg (4 - (3 + 1))
                          case measure => omega
                          case rel => exact ⟨3 + 1, _, by omega, by omega, by go_num, ⟨by have h := E4.out; rw [if_pos trivial] at h; show Kd.R k32 32 _ gx (fun _ => True) _ at4; rw [h]; exact HA5.out⟩, HX5, HBX5⟩
                  · have HA := Aside0.mk (show Kd.R k32 32 wr gx (fun _ => True) va at4 from HA.out)
                    obtain ⟨Av, cv, rfl⟩ := Kd.R_slice HA.out
                    have x0 : wr.cell? ⟨gx, 0, none⟩ = some (.int .i64 t.f0) := (blk_cell HX.out 0).trans rfl
                    have x1 : wr.cell? ⟨gx, 1, none⟩ = some (.int .i64 0) := (blk_cell HX.out 1).trans rfl
                    have x2 : wr.cell? ⟨gx, 2, none⟩ = some (.slice Av at4.length cv) := (blk_cell HX.out 2).trans rfl
                    have HMW := Aside0.mk (HM.out.below (HGX.out.symm ▸ HBX.out))
                    have hM := Aside0.mk (show k30.M wr w.heap.size (fun k => some k ≠ vo.ownBlock) ⟨t.f0, 0, at4⟩ [.int .i64 t.f0, .int .i64 0, .slice Av at4.length cv] from k30_mkM _ _ _ _ (Kd.R_lower (Kd.R_mono (Kd.R_new (HGX.out.symm ▸ HA.out) (Kd.R_own HM.out.ml.o).choose_spec) (fun k hk => hk.2)) HM.out.bl.size))
                    have HMS2 := Aside0.mk HMW.out.bl
                    go_wp2_with (at_builtin; refine Kd.R_append k30 (w0 := w) w.heap.size rfl (.tmp 161) (.tmp 163) 22 30 _ 40 rfl Tryd.underlying22 info30m rfl (by decide) (by decide) vo o ⟨t.f0, 0, at4⟩ [.int .i64 t.f0, .int .i64 0, .slice Av at4.length cv] (fun _ => True) (fun k => some k ≠ vo.ownBlock) rfl rfl hM.out (fun _ h => ⟨trivial, h⟩) (fun _ _ => trivial) HMW.out.ml.o HMW.out.bl HMW.out.bl.size (by have := HLO.out; omega) ?_; intro v7 w7 ho7 hb7 hg7 hat7; have HM7 := Aside0.mk (HMW.out.appended_o ho7 hg7 hb7); clear ho7 hb7 hg7 hat7)
                    go_roundg (N - (i + 1))
                    case measure => omega
                    case rel => exact ⟨⟨i + 1, o ++ [⟨t.f0, 0, at4⟩], ls', b0, b1, b2, b3, k, en, bh⟩, Nat.le_refl _, rfl, rfl, rfl, by go_num, ⟨by rw [← HEQ.out]; exact HS.out.1⟩, ⟨by rw [← HEQ.out, HFS.out, HF.out]⟩, ⟨⟨HM7.out.ml.o, HM7.out.ml.l, HM7.out.ml.h⟩⟩, ⟨HM7.out.tk⟩, ⟨HM7.out.bl⟩⟩
      · have HQ := Aside0.mk (show mfin l frm m0 = ⟨i, o, ls, b0, b1, b2, b3, k, en, bh⟩ by rw [← HF.out]; exact mfin_done _ _ _ (by rw [HN.out]; show N ≤ i; omega))
        have hkb : decide (i < N) = false := decide_eq_false hlt
        clear hlt
        go_wp2_with fail
        go_ret2
        exact ⟨⟨_, _, rfl, by rw [HQ.out]; exact HML.out.o, by rw [HQ.out]; exact HML.out.l⟩, HB.out⟩
end Go.Proofs.YtmjdeejccmcpnabDoor.Q
