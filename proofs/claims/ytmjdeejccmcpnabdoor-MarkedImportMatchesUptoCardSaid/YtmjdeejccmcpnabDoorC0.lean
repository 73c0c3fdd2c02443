/- The reader in memory; toggle. -/
import Derived.Test.YtmjdeejccmcpnabDoorB0
import Derived.Deep.RegionHeld3
import Derived.StillTailTactics
namespace Go.Proofs.YtmjdeejccmcpnabDoor.Q
open Go.RowKit Go.Proofs.YtmjdeejccmcpnabDoorW.PrintWords Go.Proofs.YtmjdeejccmcpnabDoorW.PrintLast Go.Proofs.YtmjdeejccmcpnabDoorW.PrintMore
set_option linter.unusedVariables false
set_option linter.unusedSimpArgs false
/-- the marks and names -/
structure Tgl (w : World) : Prop where
  m0 : w.cell? ⟨0, 0, none⟩ = some (.string ⟨#[42, 42]⟩)
  n0 : w.cell? ⟨0, 1, none⟩ = some (.string ⟨#[98, 111, 108, 100]⟩)
  m1 : w.cell? ⟨0, 2, none⟩ = some (.string ⟨#[42]⟩)
  n1 : w.cell? ⟨0, 3, none⟩ = some (.string ⟨#[105, 116, 97, 108, 105, 99]⟩)
  m2 : w.cell? ⟨0, 4, none⟩ = some (.string ⟨#[126, 126]⟩)
  n2 : w.cell? ⟨0, 5, none⟩ = some (.string ⟨#[115, 116, 114, 105, 107, 101]⟩)
  m3 : w.cell? ⟨0, 6, none⟩ = some (.string ⟨#[96]⟩)
  n3 : w.cell? ⟨0, 7, none⟩ = some (.string ⟨#[102, 105, 120, 101, 100]⟩)
theorem Tgl.below {w w' : World} (h : Tgl w) (hb : Below w.heap.size w w') : Tgl w' :=
  ⟨pw_cell_below hb h.m0, pw_cell_below hb h.n0, pw_cell_below hb h.m1, pw_cell_below hb h.n1, pw_cell_below hb h.m2, pw_cell_below hb h.n2, pw_cell_below hb h.m3, pw_cell_below hb h.n3⟩
/-- What turns is the block r, and what lies from B on. -/
structure Fr (r B : Nat) (w w' : World) : Prop where
  os : w'.os = w.os
  tape : w'.tape = w.tape
  output : w'.output = w.output
  size : w.heap.size ≤ w'.heap.size
  block : ∀ k, k < B → k ≠ r → w'.heap[k]? = w.heap[k]?
  ty : ∀ k cs t, w.heap[k]? = some (.cells cs t (0, 0)) → k ≠ r → t ≠ 30 → t ≠ 38 → w'.heap[k]? = w.heap[k]?
section
variable {r B : Nat} {a b c : World}
theorem Fr.refl (r B : Nat) (w : World) : Fr r B w w := ⟨rfl, rfl, rfl, Nat.le_refl _, fun _ _ _ => rfl, fun _ _ _ _ _ _ _ => rfl⟩
theorem Fr.trans (h : Fr r B a b) (k : Fr r B b c) : Fr r B a c := ⟨k.os.trans h.os, k.tape.trans h.tape, k.output.trans h.output, Nat.le_trans h.size k.size, fun i hi hr => (k.block i hi hr).trans (h.block i hi hr), fun i cs t hc hr h1 h2 => (k.ty i cs t ((h.ty i cs t hc hr h1 h2).trans hc) hr h1 h2).trans (h.ty i cs t hc hr h1 h2)⟩
theorem Fr.ofR {α : Type} {d : Kd α} {e : TypeId} {ok : Nat → Prop} {v : Value} {xs : List α} (hR : d.R e a B ok v xs) (he : e = 30 ∨ e = 38) (h : Below B a b) (hg : a.grownBy b v.ownBlock) : Fr r B a b :=
  ⟨h.os, h.tape, h.output, h.size, fun k hk _ => h.block k hk, fun k cs t hc _ h1 h2 => hg.block k (blk_lt hc) (Kd.R_ne hR hc (by rcases he with rfl | rfl; (exact Ne.symm h1); (exact Ne.symm h2)))⟩
theorem Fr.of (h : Below a.heap.size a b) (hB : B ≤ a.heap.size) : Fr r B a b :=
  ⟨h.os, h.tape, h.output, h.size, fun k hk _ => h.block k (Nat.lt_of_lt_of_le hk hB), fun k cs t hc _ _ _ => h.block k (blk_lt hc)⟩
theorem Fr.alloc (h : Fr r B a b) (hB : B ≤ b.heap.size) (o : Obj) : Fr r B a (b.alloc o) := h.trans (Fr.of (below_alloc (Below.refl _ _) o) hB)
theorem Fr.drew (h : Fr r B a b) : Fr r B a b.drew := ⟨h.os, h.tape, h.output, h.size, h.block, h.ty⟩
theorem Fr.setCell {p : Addr} (h : Fr r B a b) (hp : p.block = r) (u : Value) : Fr r B a (b.setCell p u) :=
  ⟨h.os, h.tape, h.output, by rw [show (b.setCell p u).heap.size = b.heap.size by simp [World.setCell]]; exact h.size, fun k hk hr => (Below.heap_setCell b p u k (fun e => hr (e.trans hp))).trans (h.block k hk hr), fun k cs t hc hr h1 h2 => (Below.heap_setCell b p u k (fun e => hr (e.trans hp))).trans (h.ty k cs t hc hr h1 h2)⟩
theorem Fr.cell (h : Fr r B a b) {p : Addr} (hp : p.block < B) (hr : p.block ≠ r) : b.cell? p = a.cell? p := World.cell?_of_block (w := a) (h.block p.block hp hr)
end
/-- what the reader holds -/
structure Rdr where
  o : List S30
  l : List S38
  b0 : Bool
  b1 : Bool
  b2 : Bool
  b3 : Bool
  k : ByteArray
structure RdV (B : Nat) (W : World) (r : Nat) (vo vl : Value) (st : Rdr) : Prop where
  h : W.heap[r]? = some (.cells #[vo, vl, .bool st.b0, .bool st.b1, .bool st.b2, .bool st.b3, .string st.k] 43 (0, 0))
  o : Kd.R k30 30 W B (fun _ => True) vo st.o
  l : Kd.R k38 38 W B (fun _ => True) vl st.l
  b : True
section
variable {B : Nat} {W W' : World} {r : Nat} {vo vl : Value} {st : Rdr}
theorem RdV.below (h : RdV B W r vo vl st) (hb : Below W.heap.size W W') : RdV B W' r vo vl st := ⟨blk_below h.h hb, Kd.R_below h.o hb, Kd.R_below h.l hb, h.b⟩
theorem RdV.alloc (h : RdV B W r vo vl st) (o : Obj) : RdV B (W.alloc o) r vo vl st := h.below (below_alloc (Below.refl _ _) o)
theorem RdV.drewN (h : RdV B W r vo vl st) (n : Nat) : RdV B (W.drewN n) r vo vl st := h.below (pw_below_drewN (Below.refl _ _) n)
theorem RdV.cells (h : RdV B W r vo vl st) : W.cell? ⟨r, 0, none⟩ = some vo ∧ W.cell? ⟨r, 1, none⟩ = some vl ∧ W.cell? ⟨r, 2, none⟩ = some (.bool st.b0) ∧ W.cell? ⟨r, 3, none⟩ = some (.bool st.b1) ∧ W.cell? ⟨r, 4, none⟩ = some (.bool st.b2) ∧ W.cell? ⟨r, 5, none⟩ = some (.bool st.b3) ∧ W.cell? ⟨r, 6, none⟩ = some (.string st.k) :=
  ⟨(blk_cell h.h 0).trans rfl, (blk_cell h.h 1).trans rfl, (blk_cell h.h 2).trans rfl, (blk_cell h.h 3).trans rfl, (blk_cell h.h 4).trans rfl, (blk_cell h.h 5).trans rfl, (blk_cell h.h 6).trans rfl⟩
theorem RdV.frozen (h : RdV B W r vo vl st) (i : Nat) : W.frozen? ⟨r, i, none⟩ = false := blk_frozen h.h i
/-- a store into the reader's own block -/
theorem RdV.set (h : RdV B W r vo vl st) (i : Nat) (u : Value) (st' : Rdr) (ho : st'.o = st.o) (hl : st'.l = st.l)
    (hc : (#[vo, vl, .bool st.b0, .bool st.b1, .bool st.b2, .bool st.b3, .string st.k] : Array Value).setIfInBounds i u = #[vo, vl, .bool st'.b0, .bool st'.b1, .bool st'.b2, .bool st'.b3, .string st'.k]) :
    RdV B (W.setCell ⟨r, i, none⟩ u) r vo vl st' :=
  ⟨blk_put h.h i u hc, by rw [ho]; exact Kd.R_set h.o h.h (by decide) i u, by rw [hl]; exact Kd.R_set h.l h.h (by decide) i u, h.b⟩
end
/-- what toggle does -/
def togN (l : List UInt8) : Nat := if Lib.hasPrefix l [42, 42] = true then 2 else if Lib.hasPrefix l [42] = true then 1 else if Lib.hasPrefix l [126, 126] = true then 2 else if Lib.hasPrefix l [96] = true then 1 else 0
def togS (l : List UInt8) (st : Rdr) : Rdr := if Lib.hasPrefix l [42, 42] = true then { st with b0 := !st.b0 } else if Lib.hasPrefix l [42] = true then { st with b1 := !st.b1 } else if Lib.hasPrefix l [126, 126] = true then { st with b2 := !st.b2 } else if Lib.hasPrefix l [96] = true then { st with b3 := !st.b3 } else st
theorem hasPrefix_at (s p : ByteArray) (b : Bool) (w : World) (h : Lib.hasPrefix s.data.toList p.data.toList = b) :
    Calls Tryd.prog 23 #[.string s, .string p] w fun e w' => e = .returned (.bool b) ∧ w' = w := by
  have := Tryd.strings_HasPrefix s p w
  rw [h] at this
  exact this
theorem idx84_0 (w : World) : (Instr.index 84 (.agg #[.string ⟨#[42, 42]⟩, .string ⟨#[98, 111, 108, 100]⟩, .string ⟨#[42]⟩, .string ⟨#[105, 116, 97, 108, 105, 99]⟩, .string ⟨#[126, 126]⟩, .string ⟨#[115, 116, 114, 105, 107, 101]⟩, .string ⟨#[96]⟩, .string ⟨#[102, 105, 120, 101, 100]⟩]) (.int .i64 0)).run Tryd.prog w = .ok (.agg #[.string ⟨#[42, 42]⟩, .string ⟨#[98, 111, 108, 100]⟩]) w := by kernel_rfl
theorem idx84_1 (w : World) : (Instr.index 84 (.agg #[.string ⟨#[42, 42]⟩, .string ⟨#[98, 111, 108, 100]⟩, .string ⟨#[42]⟩, .string ⟨#[105, 116, 97, 108, 105, 99]⟩, .string ⟨#[126, 126]⟩, .string ⟨#[115, 116, 114, 105, 107, 101]⟩, .string ⟨#[96]⟩, .string ⟨#[102, 105, 120, 101, 100]⟩]) (.int .i64 1)).run Tryd.prog w = .ok (.agg #[.string ⟨#[42]⟩, .string ⟨#[105, 116, 97, 108, 105, 99]⟩]) w := by kernel_rfl
theorem idx84_2 (w : World) : (Instr.index 84 (.agg #[.string ⟨#[42, 42]⟩, .string ⟨#[98, 111, 108, 100]⟩, .string ⟨#[42]⟩, .string ⟨#[105, 116, 97, 108, 105, 99]⟩, .string ⟨#[126, 126]⟩, .string ⟨#[115, 116, 114, 105, 107, 101]⟩, .string ⟨#[96]⟩, .string ⟨#[102, 105, 120, 101, 100]⟩]) (.int .i64 2)).run Tryd.prog w = .ok (.agg #[.string ⟨#[126, 126]⟩, .string ⟨#[115, 116, 114, 105, 107, 101]⟩]) w := by kernel_rfl
theorem idx84_3 (w : World) : (Instr.index 84 (.agg #[.string ⟨#[42, 42]⟩, .string ⟨#[98, 111, 108, 100]⟩, .string ⟨#[42]⟩, .string ⟨#[105, 116, 97, 108, 105, 99]⟩, .string ⟨#[126, 126]⟩, .string ⟨#[115, 116, 114, 105, 107, 101]⟩, .string ⟨#[96]⟩, .string ⟨#[102, 105, 120, 101, 100]⟩]) (.int .i64 3)).run Tryd.prog w = .ok (.agg #[.string ⟨#[96]⟩, .string ⟨#[102, 105, 120, 101, 100]⟩]) w := by kernel_rfl
attribute [local go_sem] idx84_0 idx84_1 idx84_2 idx84_3
set_option maxHeartbeats 4000000 in
set_option maxRecDepth 100000 in
theorem toggle_ok (B : Nat) (r : Nat) (vo vl : Value) (st : Rdr) (s : ByteArray) (w : World) (hT : Tgl w) (hR : RdV B w r vo vl st) (hB : B ≤ w.heap.size) :
    Calls Tryd.prog 26 #[.pointer (some ⟨r, 0, none⟩), .string s] w fun e w' => e = .returned (.int .i64 (togN s.data.toList : Int)) ∧ RdV B w' r vo vl (togS s.data.toList st) ∧ Fr r B w w' := by
  obtain ⟨m0, n0, m1, n1, m2, n2, m3, n3⟩ := hT
  have HR := Aside0.mk hR
  go_enter Tryd.func26, Tryd.ntmps26
  go_wp2_with fail
  have HT := Aside0.mk (show Tgl w from ⟨m0, n0, m1, n1, m2, n2, m3, n3⟩)
  clear m0 n0 m1 n1 m2 n2 m3 n3 hR
  have HB0 := Aside0.mk hB
  go_loopg [8] 4 (fun gk v8 wr => ∃ k : Nat, k ≤ 4 ∧ 4 - k ≤ gk ∧ v8 = .int .i64 (k : Int) ∧ Aside0 ((0 < k → Lib.hasPrefix s.data.toList [42, 42] = false) ∧ (1 < k → Lib.hasPrefix s.data.toList [42] = false) ∧ (2 < k → Lib.hasPrefix s.data.toList [126, 126] = false) ∧ (3 < k → Lib.hasPrefix s.data.toList [96] = false)) ∧ Aside0 (RdV B wr r vo vl st) ∧ Aside0 (Fr r B w wr))
  case atStart => exact ⟨0, by omega, by omega, rfl, ⟨by simp⟩, HR, ⟨Fr.refl _ _ _⟩⟩
  case round =>
    clear HR
    obtain ⟨k, hk, hgk, rfl, HN, HR, HW⟩ := hrel
    have K : k = 0 ∨ k = 1 ∨ k = 2 ∨ k = 3 ∨ k = 4 := by omega
    rcases K with rfl | rfl | rfl | rfl | rfl
    · obtain ⟨hp, hhp⟩ : ∃ b, Lib.hasPrefix s.data.toList [42, 42] = b := ⟨_, rfl⟩
      have HP := Aside0.mk hhp
      clear hhp
      go_upto_region 4 with fail
      have HR2 := Aside0.mk (HR.out.alloc (.cells #[.string ⟨#[42, 42]⟩, .string ⟨#[98, 111, 108, 100]⟩] 83))
      have HW2 := Aside0.mk (HW.out.alloc (by have := HW.out.size; have := HB0.out; omega) (.cells #[.string ⟨#[42, 42]⟩, .string ⟨#[98, 111, 108, 100]⟩] 83))
      have HX2 := Aside0.mk (show (wr.alloc (.cells #[.string ⟨#[42, 42]⟩, .string ⟨#[98, 111, 108, 100]⟩] 83)).heap[wr.heap.size]? = some (.cells #[.string ⟨#[42, 42]⟩, .string ⟨#[98, 111, 108, 100]⟩] 83 (0, 0)) from blk_new _ _)
      obtain ⟨gx, hgx⟩ : ∃ gx, wr.heap.size = gx := ⟨_, rfl⟩
      obtain ⟨w2, h2⟩ : ∃ w2, wr.alloc (.cells #[.string ⟨#[42, 42]⟩, .string ⟨#[98, 111, 108, 100]⟩] 83) = w2 := ⟨_, rfl⟩
      rw [h2] at HR2 HW2 HX2 ⊢
      rw [hgx] at HX2
      simp only [hgx]
      clear h2 hgx HR HW
      have x0 : w2.cell? ⟨gx, 0, none⟩ = some (.string ⟨#[42, 42]⟩) := (blk_cell HX2.out 0).trans rfl
      cases hp
      · go_wp2_with (go_at_call 23; refine (hasPrefix_at s ⟨#[42, 42]⟩ false _ HP.out).mono ?_; rintro e w' ⟨rfl, rfl⟩)
        go_roundg (4 - (0 + 1))
        case measure => omega
        case rel => exact ⟨0 + 1, by omega, by omega, by go_num, ⟨by have := HN.out; have := HP.out; refine ⟨?_, ?_, ?_, ?_⟩ <;> intro h <;> first | assumption | exact HN.out.1 (by omega) | exact HN.out.2.1 (by omega) | exact HN.out.2.2.1 (by omega) | omega⟩, HR2, HW2⟩
      · obtain ⟨r0, r1, r2, r3, r4, r5, r6⟩ := HR2.out.cells
        have rf := HR2.out.frozen 2
        go_upto_region 5 with (go_at_call 23; refine (hasPrefix_at s ⟨#[42, 42]⟩ true _ HP.out).mono ?_; rintro e w' ⟨rfl, rfl⟩)
        refine wp_region_still_tail 12 (by kernel_rfl) (by kernel_rfl) ?_
        simp only [List.take_succ_cons, List.take_zero, List.drop_succ_cons, List.drop_zero]
        repeat still_step
        refine wpStill_nil ?_
        change wpList _ _ _ _ _ w'.drew
        have HN2 := Aside0.mk (show togN s.data.toList = 2 ∧ togS s.data.toList st = { st with b0 := !st.b0 } by
          simp only [togN, togS, HP.out, Bool.false_eq_true, if_true, if_false, and_self])
        have HR3 := Aside0.mk (HR2.out.drewN 1)
        have HX3 := Aside0.mk (blk_drewN HX2.out 1)
        have HW3 := Aside0.mk (HW2.out.drew)
        obtain ⟨w3, h3⟩ : ∃ w3, w'.drew = w3 := ⟨_, rfl⟩
        rw [show w'.drewN 1 = w3 from h3] at HR3 HX3
        rw [h3] at HW3 ⊢
        clear h3 HR2 HX2 HW2 r0 r1 r2 r3 r4 r5 r6 rf x0
        have r2 := (blk_cell HR3.out.h 2).trans rfl
        have rf := HR3.out.frozen 2
        have HR4 := Aside0.mk (HR3.out.set 2 (.bool (!st.b0)) { st with b0 := !st.b0 } rfl rfl rfl)
        have HX4 := Aside0.mk (blk_far HX3.out (p := ⟨r, 2, none⟩) (blk_ne HX3.out HR3.out.h (by decide)) (.bool (!st.b0)))
        have HW4 := Aside0.mk (HW3.out.setCell (p := ⟨r, 2, none⟩) rfl (.bool (!st.b0)))
        have x0 := (blk_cell HX4.out 0).trans rfl
        go_wp2_with fail
        go_ret
        exact ⟨by rw [HN2.out.1]; rfl, by rw [HN2.out.2]; exact HR4.out, HW4.out⟩
    · obtain ⟨hp, hhp⟩ : ∃ b, Lib.hasPrefix s.data.toList [42] = b := ⟨_, rfl⟩
      have HP := Aside0.mk hhp
      clear hhp
      go_upto_region 4 with fail
      have HR2 := Aside0.mk (HR.out.alloc (.cells #[.string ⟨#[42]⟩, .string ⟨#[105, 116, 97, 108, 105, 99]⟩] 83))
      have HW2 := Aside0.mk (HW.out.alloc (by have := HW.out.size; have := HB0.out; omega) (.cells #[.string ⟨#[42]⟩, .string ⟨#[105, 116, 97, 108, 105, 99]⟩] 83))
      have HX2 := Aside0.mk (show (wr.alloc (.cells #[.string ⟨#[42]⟩, .string ⟨#[105, 116, 97, 108, 105, 99]⟩] 83)).heap[wr.heap.size]? = some (.cells #[.string ⟨#[42]⟩, .string ⟨#[105, 116, 97, 108, 105, 99]⟩] 83 (0, 0)) from blk_new _ _)
      obtain ⟨gx, hgx⟩ : ∃ gx, wr.heap.size = gx := ⟨_, rfl⟩
      obtain ⟨w2, h2⟩ : ∃ w2, wr.alloc (.cells #[.string ⟨#[42]⟩, .string ⟨#[105, 116, 97, 108, 105, 99]⟩] 83) = w2 := ⟨_, rfl⟩
      rw [h2] at HR2 HW2 HX2 ⊢
      rw [hgx] at HX2
      simp only [hgx]
      clear h2 hgx HR HW
      have x0 : w2.cell? ⟨gx, 0, none⟩ = some (.string ⟨#[42]⟩) := (blk_cell HX2.out 0).trans rfl
      cases hp
      · go_wp2_with (go_at_call 23; refine (hasPrefix_at s ⟨#[42]⟩ false _ HP.out).mono ?_; rintro e w' ⟨rfl, rfl⟩)
        go_roundg (4 - (1 + 1))
        case measure => omega
        case rel => exact ⟨1 + 1, by omega, by omega, by go_num, ⟨by have := HN.out; have := HP.out; refine ⟨?_, ?_, ?_, ?_⟩ <;> intro h <;> first | assumption | exact HN.out.1 (by omega) | exact HN.out.2.1 (by omega) | exact HN.out.2.2.1 (by omega) | omega⟩, HR2, HW2⟩
      · obtain ⟨r0, r1, r2, r3, r4, r5, r6⟩ := HR2.out.cells
        have rf := HR2.out.frozen 3
        go_upto_region 5 with (go_at_call 23; refine (hasPrefix_at s ⟨#[42]⟩ true _ HP.out).mono ?_; rintro e w' ⟨rfl, rfl⟩)
        refine wp_region_still_tail 12 (by kernel_rfl) (by kernel_rfl) ?_
        simp only [List.take_succ_cons, List.take_zero, List.drop_succ_cons, List.drop_zero]
        repeat still_step
        refine wpStill_nil ?_
        change wpList _ _ _ _ _ w'.drew
        have HN2 := Aside0.mk (show togN s.data.toList = 1 ∧ togS s.data.toList st = { st with b1 := !st.b1 } by
          simp only [togN, togS, HN.out.1 (by omega), HP.out, Bool.false_eq_true, if_true, if_false, and_self])
        have HR3 := Aside0.mk (HR2.out.drewN 1)
        have HX3 := Aside0.mk (blk_drewN HX2.out 1)
        have HW3 := Aside0.mk (HW2.out.drew)
        obtain ⟨w3, h3⟩ : ∃ w3, w'.drew = w3 := ⟨_, rfl⟩
        rw [show w'.drewN 1 = w3 from h3] at HR3 HX3
        rw [h3] at HW3 ⊢
        clear h3 HR2 HX2 HW2 r0 r1 r2 r3 r4 r5 r6 rf x0
        have r3 := (blk_cell HR3.out.h 3).trans rfl
        have rf := HR3.out.frozen 3
        have HR4 := Aside0.mk (HR3.out.set 3 (.bool (!st.b1)) { st with b1 := !st.b1 } rfl rfl rfl)
        have HX4 := Aside0.mk (blk_far HX3.out (p := ⟨r, 3, none⟩) (blk_ne HX3.out HR3.out.h (by decide)) (.bool (!st.b1)))
        have HW4 := Aside0.mk (HW3.out.setCell (p := ⟨r, 3, none⟩) rfl (.bool (!st.b1)))
        have x0 := (blk_cell HX4.out 0).trans rfl
        go_wp2_with fail
        go_ret
        exact ⟨by rw [HN2.out.1]; rfl, by rw [HN2.out.2]; exact HR4.out, HW4.out⟩
    · obtain ⟨hp, hhp⟩ : ∃ b, Lib.hasPrefix s.data.toList [126, 126] = b := ⟨_, rfl⟩
      have HP := Aside0.mk hhp
      clear hhp
      go_upto_region 4 with fail
      have HR2 := Aside0.mk (HR.out.alloc (.cells #[.string ⟨#[126, 126]⟩, .string ⟨#[115, 116, 114, 105, 107, 101]⟩] 83))
      have HW2 := Aside0.mk (HW.out.alloc (by have := HW.out.size; have := HB0.out; omega) (.cells #[.string ⟨#[126, 126]⟩, .string ⟨#[115, 116, 114, 105, 107, 101]⟩] 83))
      have HX2 := Aside0.mk (show (wr.alloc (.cells #[.string ⟨#[126, 126]⟩, .string ⟨#[115, 116, 114, 105, 107, 101]⟩] 83)).heap[wr.heap.size]? = some (.cells #[.string ⟨#[126, 126]⟩, .string ⟨#[115, 116, 114, 105, 107, 101]⟩] 83 (0, 0)) from blk_new _ _)
      obtain ⟨gx, hgx⟩ : ∃ gx, wr.heap.size = gx := ⟨_, rfl⟩
      obtain ⟨w2, h2⟩ : ∃ w2, wr.alloc (.cells #[.string ⟨#[126, 126]⟩, .string ⟨#[115, 116, 114, 105, 107, 101]⟩] 83) = w2 := ⟨_, rfl⟩
      rw [h2] at HR2 HW2 HX2 ⊢
      rw [hgx] at HX2
      simp only [hgx]
      clear h2 hgx HR HW
      have x0 : w2.cell? ⟨gx, 0, none⟩ = some (.string ⟨#[126, 126]⟩) := (blk_cell HX2.out 0).trans rfl
      cases hp
      · go_wp2_with (go_at_call 23; refine (hasPrefix_at s ⟨#[126, 126]⟩ false _ HP.out).mono ?_; rintro e w' ⟨rfl, rfl⟩)
        go_roundg (4 - (2 + 1))
        case measure => omega
        case rel => exact ⟨2 + 1, by omega, by omega, by go_num, ⟨by have := HN.out; have := HP.out; refine ⟨?_, ?_, ?_, ?_⟩ <;> intro h <;> first | assumption | exact HN.out.1 (by omega) | exact HN.out.2.1 (by omega) | exact HN.out.2.2.1 (by omega) | omega⟩, HR2, HW2⟩
      · obtain ⟨r0, r1, r2, r3, r4, r5, r6⟩ := HR2.out.cells
        have rf := HR2.out.frozen 4
        go_upto_region 5 with (go_at_call 23; refine (hasPrefix_at s ⟨#[126, 126]⟩ true _ HP.out).mono ?_; rintro e w' ⟨rfl, rfl⟩)
        refine wp_region_still_tail 12 (by kernel_rfl) (by kernel_rfl) ?_
        simp only [List.take_succ_cons, List.take_zero, List.drop_succ_cons, List.drop_zero]
        repeat still_step
        refine wpStill_nil ?_
        change wpList _ _ _ _ _ w'.drew
        have HN2 := Aside0.mk (show togN s.data.toList = 2 ∧ togS s.data.toList st = { st with b2 := !st.b2 } by
          simp only [togN, togS, HN.out.1 (by omega), HN.out.2.1 (by omega), HP.out, Bool.false_eq_true, if_true, if_false, and_self])
        have HR3 := Aside0.mk (HR2.out.drewN 1)
        have HX3 := Aside0.mk (blk_drewN HX2.out 1)
        have HW3 := Aside0.mk (HW2.out.drew)
        obtain ⟨w3, h3⟩ : ∃ w3, w'.drew = w3 := ⟨_, rfl⟩
        rw [show w'.drewN 1 = w3 from h3] at HR3 HX3
        rw [h3] at HW3 ⊢
        clear h3 HR2 HX2 HW2 r0 r1 r2 r3 r4 r5 r6 rf x0
        have r4 := (blk_cell HR3.out.h 4).trans rfl
        have rf := HR3.out.frozen 4
        have HR4 := Aside0.mk (HR3.out.set 4 (.bool (!st.b2)) { st with b2 := !st.b2 } rfl rfl rfl)
        have HX4 := Aside0.mk (blk_far HX3.out (p := ⟨r, 4, none⟩) (blk_ne HX3.out HR3.out.h (by decide)) (.bool (!st.b2)))
        have HW4 := Aside0.mk (HW3.out.setCell (p := ⟨r, 4, none⟩) rfl (.bool (!st.b2)))
        have x0 := (blk_cell HX4.out 0).trans rfl
        go_wp2_with fail
        go_ret
        exact ⟨by rw [HN2.out.1]; rfl, by rw [HN2.out.2]; exact HR4.out, HW4.out⟩
    · obtain ⟨hp, hhp⟩ : ∃ b, Lib.hasPrefix s.data.toList [96] = b := ⟨_, rfl⟩
      have HP := Aside0.mk hhp
      clear hhp
      go_upto_region 4 with fail
      have HR2 := Aside0.mk (HR.out.alloc (.cells #[.string ⟨#[96]⟩, .string ⟨#[102, 105, 120, 101, 100]⟩] 83))
      have HW2 := Aside0.mk (HW.out.alloc (by have := HW.out.size; have := HB0.out; omega) (.cells #[.string ⟨#[96]⟩, .string ⟨#[102, 105, 120, 101, 100]⟩] 83))
      have HX2 := Aside0.mk (show (wr.alloc (.cells #[.string ⟨#[96]⟩, .string ⟨#[102, 105, 120, 101, 100]⟩] 83)).heap[wr.heap.size]? = some (.cells #[.string ⟨#[96]⟩, .string ⟨#[102, 105, 120, 101, 100]⟩] 83 (0, 0)) from blk_new _ _)
      obtain ⟨gx, hgx⟩ : ∃ gx, wr.heap.size = gx := ⟨_, rfl⟩
      obtain ⟨w2, h2⟩ : ∃ w2, wr.alloc (.cells #[.string ⟨#[96]⟩, .string ⟨#[102, 105, 120, 101, 100]⟩] 83) = w2 := ⟨_, rfl⟩
      rw [h2] at HR2 HW2 HX2 ⊢
      rw [hgx] at HX2
      simp only [hgx]
      clear h2 hgx HR HW
      have x0 : w2.cell? ⟨gx, 0, none⟩ = some (.string ⟨#[96]⟩) := (blk_cell HX2.out 0).trans rfl
      cases hp
      · go_wp2_with (go_at_call 23; refine (hasPrefix_at s ⟨#[96]⟩ false _ HP.out).mono ?_; rintro e w' ⟨rfl, rfl⟩)
        go_roundg (4 - (3 + 1))
        case measure => omega
        case rel => exact ⟨3 + 1, by omega, by omega, by go_num, ⟨by have := HN.out; have := HP.out; refine ⟨?_, ?_, ?_, ?_⟩ <;> intro h <;> first | assumption | exact HN.out.1 (by omega) | exact HN.out.2.1 (by omega) | exact HN.out.2.2.1 (by omega) | omega⟩, HR2, HW2⟩
      · obtain ⟨r0, r1, r2, r3, r4, r5, r6⟩ := HR2.out.cells
        have rf := HR2.out.frozen 5
        go_upto_region 5 with (go_at_call 23; refine (hasPrefix_at s ⟨#[96]⟩ true _ HP.out).mono ?_; rintro e w' ⟨rfl, rfl⟩)
        refine wp_region_still_tail 12 (by kernel_rfl) (by kernel_rfl) ?_
        simp only [List.take_succ_cons, List.take_zero, List.drop_succ_cons, List.drop_zero]
        repeat still_step
        refine wpStill_nil ?_
        change wpList _ _ _ _ _ w'.drew
        have HN2 := Aside0.mk (show togN s.data.toList = 1 ∧ togS s.data.toList st = { st with b3 := !st.b3 } by
          simp only [togN, togS, HN.out.1 (by omega), HN.out.2.1 (by omega), HN.out.2.2.1 (by omega), HP.out, Bool.false_eq_true, if_true, if_false, and_self])
        have HR3 := Aside0.mk (HR2.out.drewN 1)
        have HX3 := Aside0.mk (blk_drewN HX2.out 1)
        have HW3 := Aside0.mk (HW2.out.drew)
        obtain ⟨w3, h3⟩ : ∃ w3, w'.drew = w3 := ⟨_, rfl⟩
        rw [show w'.drewN 1 = w3 from h3] at HR3 HX3
        rw [h3] at HW3 ⊢
        clear h3 HR2 HX2 HW2 r0 r1 r2 r3 r4 r5 r6 rf x0
        have r5 := (blk_cell HR3.out.h 5).trans rfl
        have rf := HR3.out.frozen 5
        have HR4 := Aside0.mk (HR3.out.set 5 (.bool (!st.b3)) { st with b3 := !st.b3 } rfl rfl rfl)
        have HX4 := Aside0.mk (blk_far HX3.out (p := ⟨r, 5, none⟩) (blk_ne HX3.out HR3.out.h (by decide)) (.bool (!st.b3)))
        have HW4 := Aside0.mk (HW3.out.setCell (p := ⟨r, 5, none⟩) rfl (.bool (!st.b3)))
        have x0 := (blk_cell HX4.out 0).trans rfl
        go_wp2_with fail
        go_ret
        exact ⟨by rw [HN2.out.1]; rfl, by rw [HN2.out.2]; exact HR4.out, HW4.out⟩
    · have HN2 := Aside0.mk (show togN s.data.toList = 0 ∧ togS s.data.toList st = st by
        unfold togN togS
        rw [HN.out.1 (by omega), HN.out.2.1 (by omega), HN.out.2.2.1 (by omega), HN.out.2.2.2 (by omega)]
        exact ⟨rfl, rfl⟩)
      go_wp2_with fail
      go_ret
      exact ⟨by rw [HN2.out.1]; rfl, by rw [HN2.out.2]; exact HR.out, HW.out⟩
end Go.Proofs.YtmjdeejccmcpnabDoor.Q
