/- The three closures that the library is handed: what each returns. -/
import Derived.Test.YtmjdeejccmcpnaaS0
import Derived.Shelf.SlSortCmp.WholeK
namespace Go.Proofs.Ytmjdeejccmcpnaa.Q
open Go.RowKit Go.Proofs.YtmjdeejccmcpnaaW.PrintWords Go.Proofs.YtmjdeejccmcpnaaW.PrintLast Go.Proofs.YtmjdeejccmcpnaaW.PrintMore Go.Sort
set_option linter.unusedVariables false
set_option linter.unusedSimpArgs false
def enc33 (s : S33) : List Value := [.int .i64 s.f0, .int .i64 s.f1, .int .i64 s.f2, .int .i64 s.f3]
def enc37 (s : S37) : List Value := [.int .i64 s.f0, .int .i64 s.f1, .int .i64 s.f2, .int .i64 s.f3, .int .i64 s.f4, .int .i64 s.f5, .int .i64 s.f6]
theorem clos15 (s : S33) (gx : Nat) (it : Int) (w : World) (hx : w.cell? ⟨gx, 0, none⟩ = some (.int .i64 it)) :
    Calls Try.prog 15 #[.agg #[.int .i64 s.f0, .int .i64 s.f1, .int .i64 s.f2, .int .i64 s.f3], .pointer (some ⟨gx, 0, none⟩)] w fun e w' => e = .returned (.bool (s.f0 == it)) ∧ Below w.heap.size w w' := by
  have hlt := World.block_lt_of_cell? w _ hx
  have hne : ∀ o, (w.alloc o).cell? ⟨gx, 0, none⟩ = some (.int .i64 it) := fun o => (World.cell?_alloc_lt w o _ hlt).trans hx
  have hlt' : gx < w.heap.size := hlt
  go_enter Try.func15, Try.ntmps15
  go_wp2
  go_ret
  exact ⟨rfl, (Below.refl _ _).alloc (Nat.le_refl _) _⟩
theorem clos11 (s : S37) (gx : Nat) (it : Int) (w : World) (hx : w.cell? ⟨gx, 0, none⟩ = some (.int .i64 it)) :
    Calls Try.prog 11 #[.agg #[.int .i64 s.f0, .int .i64 s.f1, .int .i64 s.f2, .int .i64 s.f3, .int .i64 s.f4, .int .i64 s.f5, .int .i64 s.f6], .pointer (some ⟨gx, 0, none⟩)] w fun e w' => e = .returned (.bool (s.f0 == it)) ∧ Below w.heap.size w w' := by
  have hlt := World.block_lt_of_cell? w _ hx
  have hne : ∀ o, (w.alloc o).cell? ⟨gx, 0, none⟩ = some (.int .i64 it) := fun o => (World.cell?_alloc_lt w o _ hlt).trans hx
  go_enter Try.func11, Try.ntmps11
  go_wp2
  go_ret
  exact ⟨rfl, (Below.refl _ _).alloc (Nat.le_refl _) _⟩
theorem clos19 (a b : S33) (w : World) :
    Calls Try.prog 19 #[.agg #[.int .i64 a.f0, .int .i64 a.f1, .int .i64 a.f2, .int .i64 a.f3], .agg #[.int .i64 b.f0, .int .i64 b.f1, .int .i64 b.f2, .int .i64 b.f3]] w fun e w' => e = .returned (.int .i64 (wrap64 (a.f0 - b.f0))) ∧ ∃ q os', w' = grow (w.drewN q) os' := by
  go_enter Try.func19, Try.ntmps19
  go_wp2
  go_ret
  exact ⟨rfl, 0, _, by rw [alloc_eq_grow, alloc_eq_grow, grow_grow]; rfl⟩
end Go.Proofs.Ytmjdeejccmcpnaa.Q
