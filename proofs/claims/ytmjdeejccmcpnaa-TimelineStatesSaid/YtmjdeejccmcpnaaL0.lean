/- What slices.IndexFunc, slices.ContainsFunc and slices.SortFunc return here, at this program's closures: out of the library's contracts. -/
import Derived.Test.YtmjdeejccmcpnaaS2
import Derived.Test.YtmjdeejccmcpnaaShelf
namespace Go.Proofs.Ytmjdeejccmcpnaa.Q
open Go.RowKit Go.Proofs.YtmjdeejccmcpnaaW.PrintWords Go.Proofs.YtmjdeejccmcpnaaW.PrintLast Go.Proofs.YtmjdeejccmcpnaaW.PrintMore Go.Sort Go.Shelf
set_option linter.unusedVariables false
set_option linter.unusedSimpArgs false
instance : Inhabited S33 := ⟨z33⟩
instance : Inhabited S37 := ⟨z37⟩
theorem spot_of {w : World} {a : Addr} {v : Value} (h : w.cell? a = some v) : a = ⟨a.block, a.off, none⟩ := by
  obtain ⟨b, o, s⟩ := a
  cases s with
  | none => rfl
  | some s =>
    exfalso
    unfold World.cell? at h
    simp only [Option.isSome_some, if_true] at h
    split at h <;> cases h
theorem enc33_of {w : World} {x : S33} {c : List Value} (h : k33.K w x c) : c = enc33 x := k33_open h
theorem enc37_of {w : World} {x : S37} {c : List Value} (h : k37.K w x c) : c = enc37 x := k37_open h
theorem add_at (b o k : Nat) : (⟨b, o, none⟩ : Addr).add k = ⟨b, o + k, none⟩ := by
  unfold Addr.add
  split
  · simp_all
  · rfl
/-- a row that is read, its address written out, its cells by the library's own words -/
theorem C_at {α : Type} [Inhabited α] {d : Kd α} {enc : α → List Value} {m : Nat} (hd : d.sz = m) (hm : 0 < m) (he : ∀ {w : World} {x : α} {c : List Value}, d.K w x c → c = enc x) {w : World} {A : Option Addr} {n : Nat} {xs : List α} (h : Kd.C d w A n xs) (h0 : 0 < n) :
    ∃ b off, A = some ⟨b, off, none⟩ ∧ b < w.heap.size ∧ ∀ j, j < xs.length → ∀ i v, (enc xs[j]!)[i]? = some v → w.cell? ⟨b, off + j * m + i, none⟩ = some v := by
  obtain ⟨hn, hb, hr⟩ := h
  obtain ⟨ad, rfl, hc⟩ := hr h0
  have hl : 0 < xs.length := by omega
  obtain ⟨c, hcs, hK, hcell⟩ := hc 0 _ (List.getElem?_eq_getElem hl)
  have hc0 : 0 < c.length := by omega
  have h1 := hcell 0 _ (List.getElem?_eq_getElem hc0)
  have e0 : ad.add (0 * d.sz + 0) = ad := by simp [Addr.add]
  rw [e0] at h1
  have ead := spot_of h1
  refine ⟨ad.block, ad.off, by rw [← ead], World.block_lt_of_cell? w ad h1, fun j hj i v hv => ?_⟩
  obtain ⟨c, _, hK, hcell⟩ := hc j _ (List.getElem?_eq_getElem hj)
  have e1 : xs[j]! = xs[j] := by simp [hj]
  rw [e1, ← he hK] at hv
  have h2 := hcell i v hv
  have e2 : ad.add (j * d.sz + i) = ⟨ad.block, ad.off + j * m + i, none⟩ := by
    rw [hd]
    rw [Nat.add_assoc]
    rw [ead]
    exact add_at _ _ _
  rw [← e2]
  exact h2
theorem idxFrom (out : List S33) (it : Int) : ∀ i : Nat, Lib.idxByFrom (fun _ y => y.f0 == it) (default : S33) out i = if findI out it < out.length then ((i + findI out it : Nat) : Int) else -1 := by
  induction out with
  | nil => intro i; simp [Lib.idxByFrom, findI]
  | cons s r ih =>
    intro i
    unfold Lib.idxByFrom
    by_cases h : (s.f0 == it) = true
    · simp [findI, List.findIdx_cons, h]
    · rw [if_neg h, ih (i + 1)]
      have h' : (s.f0 == it) = false := by simpa using h
      unfold findI
      rw [List.findIdx_cons, h']
      simp only [cond_false, List.length_cons, Nat.add_lt_add_iff_right]
      split
      · congr 1; omega
      · rfl
theorem idx_calls (A : Option Addr) (c : Nat) (out : List S33) (gx : Nat) (it : Int) (w : World) (hr : Kd.C k33 w A out.length out) (hc : out.length ≤ c) (hx : w.cell? ⟨gx, 0, none⟩ = some (.int .i64 it)) :
    Calls Try.prog 14 #[.slice A out.length c, .func (.func 15) #[] #[.pointer (some ⟨gx, 0, none⟩)]] w fun e w' => e = .returned (.int .i64 (idxI out it)) ∧ Below w.heap.size w w' := by
  rcases Nat.eq_zero_or_pos out.length with h0 | h0
  · obtain rfl : out = [] := List.eq_nil_of_length_eq_zero h0
    go_enter Try.func14, Try.ntmps14
    go_wp2
    refine wp_loop_rounds 1 ?_
    rw [rounds_succ]
    go_wp2
    go_ret
    exact ⟨rfl, Below.refl _ _⟩
  · obtain ⟨b, off, rfl, hb, hcell⟩ := C_at (enc := enc33) (m := 4) rfl (by omega) enc33_of hr h0
    have eg : ∀ args w, (callFunc 15 args).run Try.prog w = .ok (.enter 15 args) w := enters_of Try.func15 (by kernel_rfl) rfl
    have hlt : gx < w.heap.size := World.block_lt_of_cell? w _ hx
    have hp : PredBelow Try.prog 15 #[.pointer (some ⟨gx, 0, none⟩)] (fun x => .agg (enc33 x).toArray) (fun s => s.f0 == it) w := fun W s hW =>
      (clos15 s gx it W ((hW.cell (p := ⟨gx, 0, none⟩) hlt).trans hx)).mono fun _ _ ⟨he, hb'⟩ => ⟨he, hW.trans (hb'.mono hW.size)⟩
    have hcon := AnyQ.slices_IndexFunc Try.idxIS 4 Try.isAgg33 Try.sizeOf33 enc33 (fun _ => rfl) (fun s => s.f0 == it) 15 #[.pointer (some ⟨gx, 0, none⟩)] eg b off out.length c out w hp (Nat.le_refl _) hr.2.1 hb hcell
    change Calls Try.prog 14 _ _ _ at hcon
    refine hcon.mono ?_
    rintro e w' ⟨rfl, hbw⟩
    refine ⟨?_, hbw⟩
    rw [List.take_length]
    have := idxFrom out it 0
    unfold Lib.idxBy
    rw [this]
    unfold idxI
    simp
theorem con_calls (A : Option Addr) (c : Nat) (l : List S37) (gx : Nat) (it : Int) (w : World) (hr : Kd.C k37 w A l.length l) (hc : l.length ≤ c) (h0 : 0 < l.length) (hx : w.cell? ⟨gx, 0, none⟩ = some (.int .i64 it)) :
    Calls Try.prog 10 #[.slice A l.length c, .func (.func 11) #[] #[.pointer (some ⟨gx, 0, none⟩)]] w fun e w' => e = .returned (.bool (l.any fun y => y.f0 == it)) ∧ Below w.heap.size w w' := by
  obtain ⟨b, off, rfl, hb, hcell⟩ := C_at (enc := enc37) (m := 7) rfl (by omega) enc37_of hr h0
  have eg : ∀ args w, (callFunc 11 args).run Try.prog w = .ok (.enter 11 args) w := enters_of Try.func11 (by kernel_rfl) rfl
  have hlt : gx < w.heap.size := World.block_lt_of_cell? w _ hx
  have hp : PredBelow Try.prog 11 #[.pointer (some ⟨gx, 0, none⟩)] (fun x => .agg (enc37 x).toArray) (fun s => s.f0 == it) w := fun W s hW =>
    (clos11 s gx it W ((hW.cell (p := ⟨gx, 0, none⟩) hlt).trans hx)).mono fun _ _ ⟨he, hb'⟩ => ⟨he, hW.trans (hb'.mono hW.size)⟩
  have hcon := AnyQ.slices_ContainsFunc Try.conEff 7 Try.isAgg37 Try.sizeOf37 enc37 (fun _ => rfl) (fun s => s.f0 == it) 11 #[.pointer (some ⟨gx, 0, none⟩)] eg b off l.length c l w hp (Nat.le_refl _) hr.2.1 hb hcell
  change Calls Try.prog 10 _ _ _ at hcon
  refine hcon.mono ?_
  rintro e w' ⟨rfl, hbw⟩
  refine ⟨?_, hbw⟩
  rw [List.take_length]
end Go.Proofs.Ytmjdeejccmcpnaa.Q
