/- The items' states as data: the struct of four whole numbers, what its cells say, and the pure form of 'State'. -/
import Derived.Test.YtmjdeejccmcpnaaQ2
import Derived.Test.YtmjdeejccmcpnaaQ4
import Derived.Test.YtmjdeejccmcpnaaQ5
import Derived.Test.YtmjdeejccmcpnaaQ1
namespace Go.Proofs.Ytmjdeejccmcpnaa.Q
open Go.RowKit Go.Proofs.YtmjdeejccmcpnaaW.PrintWords Go.Proofs.YtmjdeejccmcpnaaW.PrintLast Go.Proofs.YtmjdeejccmcpnaaW.PrintMore
set_option linter.unusedVariables false
set_option linter.unusedSimpArgs false
theorem info33 : (Try.prog.info? 33).map (fun i => (i.zero, i.size, i.bytes)) = some (some (.agg #[(.int .i64 0), (.int .i64 0), (.int .i64 0), (.int .i64 0)]), 4, 32) := by kernel_rfl
theorem info4 : (Try.prog.info? 4).map (fun i => (i.zero, i.size, i.bytes)) = some (some (.bool false), 1, 1) := by kernel_rfl
structure S33 where
  f0 : Int
  f1 : Int
  f2 : Int
  f3 : Int
def z33 : S33 := ⟨(0 : Int), (0 : Int), (0 : Int), (0 : Int)⟩
def k33 : Kd S33 := Kd.iso (Kd.pair (Kd.int .i64) (Kd.pair (Kd.int .i64) (Kd.pair (Kd.int .i64) (Kd.int .i64)))) (fun x : S33 => (x.f0, x.f1, x.f2, x.f3))
theorem k33_open {w : World} {x : S33} {cs : List Value} (h : k33.K w x cs) : cs = [.int .i64 x.f0, .int .i64 x.f1, .int .i64 x.f2, .int .i64 x.f3] := by
  obtain ⟨_, _, rfl, rfl, ⟨_, _, rfl, rfl, ⟨_, _, rfl, rfl, rfl⟩⟩⟩ := h
  exact rfl
theorem k33_openM {w : World} {base : Nat} {ok : Nat → Prop} {x : S33} {cs : List Value} (h : k33.M w base ok x cs) : cs = [.int .i64 x.f0, .int .i64 x.f1, .int .i64 x.f2, .int .i64 x.f3] := by
  obtain ⟨_, _, rfl, rfl, ⟨_, _, rfl, rfl, ⟨_, _, rfl, rfl, rfl⟩⟩⟩ := h
  exact rfl
theorem k33_mk (w : World) (x : S33) : k33.K w x [.int .i64 x.f0, .int .i64 x.f1, .int .i64 x.f2, .int .i64 x.f3] := ⟨[.int .i64 x.f0], [.int .i64 x.f1, .int .i64 x.f2, .int .i64 x.f3], rfl, rfl, ⟨[.int .i64 x.f1], [.int .i64 x.f2, .int .i64 x.f3], rfl, rfl, ⟨[.int .i64 x.f2], [.int .i64 x.f3], rfl, rfl, rfl⟩⟩⟩
theorem k33_mkM (w : World) (base : Nat) (ok : Nat → Prop) (x : S33) : k33.M w base ok x [.int .i64 x.f0, .int .i64 x.f1, .int .i64 x.f2, .int .i64 x.f3] := ⟨[.int .i64 x.f0], [.int .i64 x.f1, .int .i64 x.f2, .int .i64 x.f3], rfl, rfl, ⟨[.int .i64 x.f1], [.int .i64 x.f2, .int .i64 x.f3], rfl, rfl, ⟨[.int .i64 x.f2], [.int .i64 x.f3], rfl, rfl, rfl⟩⟩⟩
theorem at_T33 {w : World} {A : Option Addr} {n : Nat} {xs : List S33} (h : Kd.C k33 w A n xs) (i : Nat) (h1 : i < n) :
    ∃ ad, A = some ad ∧ w.cell? (ad.add (i * 4)) = some (.int .i64 (xs.getD i z33).f0) ∧ w.cell? ⟨(ad.add (i * 4)).block, (ad.add (i * 4)).off + 1, none⟩ = some (.int .i64 (xs.getD i z33).f1) ∧ w.cell? ⟨(ad.add (i * 4)).block, (ad.add (i * 4)).off + 2, none⟩ = some (.int .i64 (xs.getD i z33).f2) ∧ w.cell? ⟨(ad.add (i * 4)).block, (ad.add (i * 4)).off + 3, none⟩ = some (.int .i64 (xs.getD i z33).f3) := by
  obtain ⟨ad, c, e, _, hK, hc0⟩ := Kd.C_get h z33 (i : Int) (by omega) (by omega)
  simp only [Int.toNat_natCast] at hK hc0
  have hc : ∀ j u, c[j]? = some u → w.cell? (ad.add (i * 4 + j)) = some u := hc0
  obtain rfl := k33_open hK
  exact ⟨ad, e, hc 0 _ rfl, by rw [← add_field _ _ 1 (by omega)]; exact hc 1 _ rfl, by rw [← add_field _ _ 2 (by omega)]; exact hc 2 _ rfl, by rw [← add_field _ _ 3 (by omega)]; exact hc 3 _ rfl⟩

/-- element i of a row of one's own: its cells, none frozen -/
theorem el33 {w : World} {base cap n : Nat} {g : Nat} {xs : List S33} (h : Kd.R k33 33 w base (fun _ => True) (.slice (some ⟨g, 0, none⟩) n cap) xs) (i : Nat) (hi : i < n) :
    w.cell? ⟨g, i * 4, none⟩ = some (.int .i64 (xs.getD i z33).f0) ∧ w.cell? ⟨g, i * 4 + 1, none⟩ = some (.int .i64 (xs.getD i z33).f1) ∧ w.cell? ⟨g, i * 4 + 2, none⟩ = some (.int .i64 (xs.getD i z33).f2) ∧ w.cell? ⟨g, i * 4 + 3, none⟩ = some (.int .i64 (xs.getD i z33).f3) ∧ ∀ j, w.frozen? ⟨g, i * 4 + j, none⟩ = false := by
  obtain ⟨c, _, hM, hc0, hf0⟩ := Kd.R_elem h z33 (i : Int) (by omega) (by omega)
  simp only [Int.toNat_natCast] at hM hc0 hf0
  have hc : ∀ j u, c[j]? = some u → w.cell? ⟨g, i * 4 + j, none⟩ = some u := hc0
  obtain rfl := k33_openM hM
  exact ⟨hc 0 _ rfl, hc 1 _ rfl, hc 2 _ rfl, hc 3 _ rfl, hf0⟩
/-- a store into field j of element i of a row of one's own: the list's element turns -/
theorem put33 {w : World} {base cap n : Nat} {g : Nat} {xs : List S33} (h : Kd.R k33 33 w base (fun _ => True) (.slice (some ⟨g, 0, none⟩) n cap) xs) (i j : Nat) (hi : i < n) (hj : j < 4) (u : Int) (y : S33)
    (hy : ([Value.int .i64 (xs.getD i z33).f0, .int .i64 (xs.getD i z33).f1, .int .i64 (xs.getD i z33).f2, .int .i64 (xs.getD i z33).f3] : List Value).take j ++ [.int .i64 u] ++ ([Value.int .i64 (xs.getD i z33).f0, .int .i64 (xs.getD i z33).f1, .int .i64 (xs.getD i z33).f2, .int .i64 (xs.getD i z33).f3] : List Value).drop (j + 1) = [.int .i64 y.f0, .int .i64 y.f1, .int .i64 y.f2, .int .i64 y.f3]) :
    Kd.R k33 33 (w.setCell ⟨g, i * 4 + j, none⟩ (.int .i64 u)) base (fun _ => True) (.slice (some ⟨g, 0, none⟩) n cap) (xs.set i y) ∧ w.grownBy (w.setCell ⟨g, i * 4 + j, none⟩ (.int .i64 u)) (some g) := by
  obtain ⟨c, hcl, hM, hc0, _⟩ := Kd.R_elem h z33 (i : Int) (by omega) (by omega)
  simp only [Int.toNat_natCast] at hM
  have hc := k33_openM hM
  have hs := Kd.R_seg (okp := fun k => True ∧ k ≠ g) (seg := [.int .i64 u]) (x' := y) h (i : Int) (by omega) (by omega) hcl hc0 (j := j) (by show j + 1 ≤ 4; omega)
    (by rw [hc]; show k33.M _ _ _ y _; rw [show ([Value.int .i64 u] : List Value).length = 1 from rfl, hy]; exact k33_mkM _ _ _ y) (fun k hk => hk)
  simp only [Int.toNat_natCast] at hs
  exact hs
end Go.Proofs.Ytmjdeejccmcpnaa.Q
