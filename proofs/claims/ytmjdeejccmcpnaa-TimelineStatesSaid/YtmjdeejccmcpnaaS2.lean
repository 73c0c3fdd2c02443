/- What State's round does to the items' states, in plain words, and what memory holds meanwhile ('Bun', 'BX'). -/
import Derived.Test.YtmjdeejccmcpnaaS1
namespace Go.Proofs.Ytmjdeejccmcpnaa.Q
open Go.RowKit Go.Proofs.YtmjdeejccmcpnaaW.PrintWords Go.Proofs.YtmjdeejccmcpnaaW.PrintLast Go.Proofs.YtmjdeejccmcpnaaW.PrintMore Go.Sort
set_option linter.unusedVariables false
set_option linter.unusedSimpArgs false
/-- the first place of an item, or -1 -/
def findI (out : List S33) (it : Int) : Nat := out.findIdx (fun s => s.f0 == it)
def idxI (out : List S33) (it : Int) : Int := if findI out it < out.length then (findI out it : Int) else -1
/-- a round of State: what an effect does to the items' states -/
def part_ (n p : Int) : Int := wrap64 (Int.tdiv (wrap64 (n * p)) 1000)
def seen0 (known : Bool) (x : S37) (c : S33) : Int := if known = false ∧ x.f1 = 0 then 0 else c.f1
def seen1 (x : S37) (p s0 : Int) : Int := if x.f1 = 0 ∧ 0 < p then mx s0 p else if x.f1 = 1 ∧ 0 < p then mn s0 (wrap64 (1000 - p)) else s0
def roundO (out : List S33) (known : List Bool) (x : S37) (p : Int) (k : Nat) : List S33 :=
  if x.f1 = 2 then out.set k ⟨(out.getD k z33).f0, (out.getD k z33).f1, wrap64 ((out.getD k z33).f2 + part_ x.f5 p), wrap64 ((out.getD k z33).f3 + part_ x.f6 p)⟩
  else out.set k ⟨(out.getD k z33).f0, seen1 x p (seen0 (known.getD k false) x (out.getD k z33)), (out.getD k z33).f2, (out.getD k z33).f3⟩
def roundK (known : List Bool) (x : S37) (k : Nat) : List Bool := if x.f1 = 2 then known else known.set k true
def stStep (st : List S33 × List Bool) (x : S37) (p : Int) : List S33 × List Bool :=
  if findI st.1 x.f0 < st.1.length then (roundO st.1 st.2 x p (findI st.1 x.f0), roundK st.2 x (findI st.1 x.f0))
  else (roundO (st.1 ++ [⟨x.f0, 1000, 0, 0⟩]) (st.2 ++ [false]) x p st.1.length, roundK (st.2 ++ [false]) x st.1.length)
def stTo (l : List S37) (pr : Nat → Int) : Nat → List S33 × List Bool
  | 0 => ([], [])
  | k + 1 => stStep (stTo l pr k) (rd_T37 l (k : Int)) (pr k)
theorem findI_le (out : List S33) (it : Int) : findI out it ≤ out.length := List.findIdx_le_length
theorem stStep_len (st : List S33 × List Bool) (x : S37) (p : Int) (h : st.2.length = st.1.length) : (stStep st x p).2.length = (stStep st x p).1.length ∧ (stStep st x p).1.length ≤ st.1.length + 1 := by
  unfold stStep roundO roundK
  split <;> split <;> simp [h]
theorem stTo_len (l : List S37) (pr : Nat → Int) (k : Nat) : (stTo l pr k).2.length = (stTo l pr k).1.length ∧ (stTo l pr k).1.length ≤ k := by
  induction k with
  | zero => simp [stTo]
  | succ k ih =>
    have := stStep_len (stTo l pr k) (rd_T37 l (k : Int)) (pr k) ih.1
    simp only [stTo]
    omega

/-- what State holds while it goes on -/
structure Bun (w0 W : World) (v9 v10 v11 : Value) (out : List S33) (known : List Bool) (ts : List S45) : Prop where
  o : Kd.R k33 33 W w0.heap.size (fun _ => True) v9 out
  n : Kd.R Kd.bool 4 W w0.heap.size (fun _ => True) v10 known
  t : Kd.R k45 45 W w0.heap.size (fun _ => True) v11 ts
  b : Below w0.heap.size w0 W
/-- the effect's own box -/
def BX (W : World) (g : Nat) (x : S37) : Prop := W.heap[g]? = some (.cells #[.int .i64 x.f0, .int .i64 x.f1, .int .i64 x.f2, .int .i64 x.f3, .int .i64 x.f4, .int .i64 x.f5, .int .i64 x.f6] 37 (0, 0))
section
variable {w0 W W' : World} {v9 v10 v11 : Value} {out : List S33} {known : List Bool} {ts : List S45} {g : Nat} {x : S37}
theorem BX.cells (h : BX W g x) : W.cell? ⟨g, 0, none⟩ = some (.int .i64 x.f0) ∧ W.cell? ⟨g, 1, none⟩ = some (.int .i64 x.f1) ∧ W.cell? ⟨g, 5, none⟩ = some (.int .i64 x.f5) ∧ W.cell? ⟨g, 6, none⟩ = some (.int .i64 x.f6) :=
  ⟨(blk_cell h 0).trans rfl, (blk_cell h 1).trans rfl, (blk_cell h 5).trans rfl, (blk_cell h 6).trans rfl⟩
theorem BX.below (h : BX W g x) (hb : Below W.heap.size W W') : BX W' g x := blk_below h hb
theorem Bun.below (h : Bun w0 W v9 v10 v11 out known ts) (hb : Below W.heap.size W W') : Bun w0 W' v9 v10 v11 out known ts :=
  ⟨Kd.R_below h.o hb, Kd.R_below h.n hb, Kd.R_below h.t hb, h.b.trans (hb.mono h.b.size)⟩
theorem Bun.alloc (h : Bun w0 W v9 v10 v11 out known ts) (o : Obj) : Bun w0 (W.alloc o) v9 v10 v11 out known ts := h.below (below_alloc (Below.refl _ _) o)
theorem Bun.drewN (h : Bun w0 W v9 v10 v11 out known ts) (n : Nat) : Bun w0 (W.drewN n) v9 v10 v11 out known ts := h.below (pw_below_drewN (Below.refl _ _) n)
/-- a row of another element type has been written: the box stays -/
theorem BX.grown {α : Type} {d : Kd α} {e base : Nat} {ok : Nat → Prop} {v : Value} {xs : List α} (h : BX W g x) (hv : Kd.R d e W base ok v xs) (he : e ≠ 37) (hg : W.grownBy W' v.ownBlock) : BX W' g x :=
  blk_grown h hg (Kd.R_ne hv h he)
theorem Bun.wrote9 {v : Value} {o' : List S33} (h : Bun w0 W v9 v10 v11 out known ts) (ho : Kd.R k33 33 W' w0.heap.size (fun _ => True) v o') (hg : W.grownBy W' v9.ownBlock) : Bun w0 W' v v10 v11 o' known ts :=
  ⟨ho, Kd.R_over h.n h.o (by decide) hg, Kd.R_over h.t h.o (by decide) hg, h.b.grown hg h.b.size (fun k hk => Kd.R_base h.o k hk)⟩
theorem Bun.wrote10 {v : Value} {n' : List Bool} (h : Bun w0 W v9 v10 v11 out known ts) (hn : Kd.R Kd.bool 4 W' w0.heap.size (fun _ => True) v n') (hg : W.grownBy W' v10.ownBlock) : Bun w0 W' v9 v v11 out n' ts :=
  ⟨Kd.R_over h.o h.n (by decide) hg, hn, Kd.R_over h.t h.n (by decide) hg, h.b.grown hg h.b.size (fun k hk => Kd.R_base h.n k hk)⟩
/-- a store into field j of item i -/
theorem Bun.put {g9 cap n : Nat} (h : Bun w0 W (.slice (some ⟨g9, 0, none⟩) n cap) v10 v11 out known ts) (i j : Nat) (hi : i < n) (hj : j < 4) (u : Int) (y : S33)
    (hy : ([Value.int .i64 (out.getD i z33).f0, .int .i64 (out.getD i z33).f1, .int .i64 (out.getD i z33).f2, .int .i64 (out.getD i z33).f3] : List Value).take j ++ [.int .i64 u] ++ ([Value.int .i64 (out.getD i z33).f0, .int .i64 (out.getD i z33).f1, .int .i64 (out.getD i z33).f2, .int .i64 (out.getD i z33).f3] : List Value).drop (j + 1) = [.int .i64 y.f0, .int .i64 y.f1, .int .i64 y.f2, .int .i64 y.f3]) :
    Bun w0 (W.setCell ⟨g9, i * 4 + j, none⟩ (.int .i64 u)) (.slice (some ⟨g9, 0, none⟩) n cap) v10 v11 (out.set i y) known ts :=
  h.wrote9 (put33 h.o i j hi hj u y hy).1 (by simpa [Value.ownBlock] using (put33 h.o i j hi hj u y hy).2)
theorem Bun.putx {g9 cap n : Nat} (h : Bun w0 W (.slice (some ⟨g9, 0, none⟩) n cap) v10 v11 out known ts) (hx : BX W g x) (o : Nat) (u : Value) : BX (W.setCell ⟨g9, o, none⟩ u) g x :=
  blk_far hx (p := ⟨g9, o, none⟩) (fun e => Kd.R_ne h.o hx (by decide) (by simp [Value.ownBlock, e])) u
theorem Bun.putk {g10 cap n : Nat} (h : Bun w0 W v9 (.slice (some ⟨g10, 0, none⟩) n cap) v11 out known ts) (i : Nat) (b : Bool) :
    Bun w0 (W.setCell ⟨g10, i, none⟩ (.bool b)) v9 (.slice (some ⟨g10, 0, none⟩) n cap) v11 out (known.set i b) ts := by
  have hs := Kd.R_putg h.n (i : Int) b
  simp only [Int.toNat_natCast] at hs
  exact h.wrote10 hs.1 (by simpa [Value.ownBlock] using hs.2)
theorem Bun.putkx {g10 cap n : Nat} (h : Bun w0 W v9 (.slice (some ⟨g10, 0, none⟩) n cap) v11 out known ts) (hx : BX W g x) (o : Nat) (u : Value) : BX (W.setCell ⟨g10, o, none⟩ u) g x :=
  blk_far hx (p := ⟨g10, o, none⟩) (fun e => Kd.R_ne h.n hx (by decide) (by simp [Value.ownBlock, e])) u
theorem Bun.knownAt {g10 cap n : Nat} (h : Bun w0 W v9 (.slice (some ⟨g10, 0, none⟩) n cap) v11 out known ts) (i : Nat) (hi : i < n) :
    W.cell? ⟨g10, i, none⟩ = some (.bool (known.getD i false)) ∧ W.frozen? ⟨g10, i, none⟩ = false := by
  have hs := Kd.R_celln false h.n (i : Int) (by omega) (by omega)
  simpa [rdOf] using hs
end
end Go.Proofs.Ytmjdeejccmcpnaa.Q
