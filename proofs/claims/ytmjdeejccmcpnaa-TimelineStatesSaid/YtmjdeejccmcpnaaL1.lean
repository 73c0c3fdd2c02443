/- slices.SortFunc by the items' numbers: the row holds the same states, ascending. -/
import Derived.Test.YtmjdeejccmcpnaaL0
namespace Go.Proofs.Ytmjdeejccmcpnaa.Q
open Go.RowKit Go.Proofs.YtmjdeejccmcpnaaW.PrintWords Go.Proofs.YtmjdeejccmcpnaaW.PrintLast Go.Proofs.YtmjdeejccmcpnaaW.PrintMore Go.Sort Go.Shelf
set_option linter.unusedVariables false
set_option linter.unusedSimpArgs false
/-- what is behind the sort -/
def SortedR (w0 : World) (v : Value) (out : List S33) (w' : World) : Prop :=
  ∃ A c s, v = .slice A s.length c ∧ s.Perm out ∧ s.Pairwise (fun a b => a.f0 ≤ b.f0) ∧ s.length ≤ c ∧ Kd.C k33 w' A s.length s ∧ Below w0.heap.size w0 w'
abbrev Item := {s : S33 // 1 ≤ s.f0 ∧ s.f0 ≤ 1073741824}
instance : Inhabited Item := ⟨⟨⟨1, 0, 0, 0⟩, by decide⟩⟩
def encI (x : Item) : List Value := enc33 x.1
def cmpI (x y : Item) : Int := wrap64 (x.1.f0 - y.1.f0)
theorem ltI (x y : Item) : ltOf cmpI x y = decide (x.1.f0 < y.1.f0) := by
  have hx := x.2
  have hy := y.2
  have : cmpI x y = x.1.f0 - y.1.f0 := by unfold cmpI wrap64; omega
  unfold ltOf
  rw [this]
  exact decide_eq_decide.2 (by omega)
theorem swoI : SWO (ltOf cmpI) where
  irrefl x := by rw [ltI]; simp
  trans x y z h1 h2 := by rw [ltI] at *; simp at *; omega
  ntrans x y z h1 h2 := by rw [ltI] at *; simp at *; omega
theorem heap_putRowK_other {α : Type} [Inhabited α] (enc : α → List Value) (k : Nat) (w : World) (blk off : Nat) (d : Array α) (i : Nat) (h : i ≠ blk) : (putRowK enc k w blk off d).heap[i]? = w.heap[i]? := by
  unfold putRowK putRow mapBlock
  simp only [Array.getElem?_modify]
  rw [if_neg (Ne.symm h)]
theorem below_sort {α : Type} [Inhabited α] (enc : α → List Value) (k : Nat) (w0 w : World) (blk n : Nat) (d : Array α) (os : Array Obj) (hB : Below w0.heap.size w0 w) (hb : w0.heap.size ≤ blk) : Below w0.heap.size w0 (sortWorldK enc k w blk 0 n d os) := by
  refine hB.trans ⟨rfl, rfl, rfl, ?_, fun i hi => ?_⟩
  · show w.heap.size ≤ ((putRowK enc k (Sort.ahead w n) blk 0 d).heap ++ os).size
    rw [Array.size_append]
    have : (putRowK enc k (Sort.ahead w n) blk 0 d).heap.size = w.heap.size := size_putRow _ _ _ _ _
    omega
  · show ((putRowK enc k (Sort.ahead w n) blk 0 d).heap ++ os)[i]? = _
    have hs : (putRowK enc k (Sort.ahead w n) blk 0 d).heap.size = w.heap.size := size_putRow _ _ _ _ _
    have := hB.size
    rw [Array.getElem?_append_left (by omega), heap_putRowK_other _ _ _ _ _ _ _ (by omega)]
    rfl
theorem sort_calls (v : Value) (out : List S33) (w0 w : World) (hR : Kd.R k33 33 w w0.heap.size (fun _ => True) v out) (hB : Below w0.heap.size w0 w) (hi : ∀ s ∈ out, 1 ≤ s.f0 ∧ s.f0 ≤ 1073741824) (hlen : out.length ≤ 1000) :
    Calls Try.prog 18 #[v, .func (.func 19) #[] #[]] w fun e w' => e = .returned (.tuple #[]) ∧ SortedR w0 v out w' := by
  rcases Nat.eq_zero_or_pos out.length with h0 | h0
  · obtain rfl : out = [] := List.eq_nil_of_length_eq_zero h0
    obtain ⟨A, c, rfl, hc, hC⟩ := Kd.R_reads hR
    have hcon := AnyF.slices_SortFunc_none Try.sortIS A c (.func (.func 19) #[] #[]) w
    change Calls Try.prog 18 _ _ _ at hcon
    exact hcon.mono fun e w' ⟨he, hw⟩ => ⟨he, A, c, [], rfl, List.Perm.nil, List.Pairwise.nil, hc, by rw [hw]; exact hC, by rw [hw]; exact hB⟩
  · obtain ⟨g, cap, rfl, hg, hglt⟩ := Kd.R_form hR h0
    obtain ⟨d, hd⟩ : ∃ d : List Item, d.map (·.1) = out := ⟨out.attachWith _ hi, by simp⟩
    subst hd
    simp only [List.length_map] at h0 hlen hR ⊢
    have hH : HoldsK encI 4 w g 0 d.toArray := by
      intro t ht
      rw [size_flatK] at ht
      simp only [List.size_toArray] at ht
      have hq : t / 4 < d.length := by omega
      obtain ⟨c0, c1, c2, c3, cf⟩ := el33 hR (t / 4) hq
      have e : (d.map (·.1)).getD (t / 4) z33 = (d.toArray[t / 4]!).1 := by
        rw [List.getD_eq_getElem?_getD, List.getElem?_map, List.getElem?_eq_getElem hq]
        simp [hq]
      rw [e] at c0 c1 c2 c3
      rw [get_flatK _ _ _ _ (by simpa using ht), Nat.zero_add]
      refine ⟨?_, by have := cf (t % 4); rwa [show t / 4 * 4 + t % 4 = t from by omega] at this⟩
      have ht4 : t / 4 * 4 + t % 4 = t := by omega
      generalize d.toArray[t / 4]! = y at c0 c1 c2 c3 ⊢
      generalize t / 4 * 4 = q at c0 c1 c2 c3 ht4
      have hm4 : t % 4 < 4 := by omega
      generalize t % 4 = m at ht4 hm4 ⊢
      subst ht4
      match m, hm4 with
      | 0, _ => exact c0
      | 1, _ => exact c1
      | 2, _ => exact c2
      | 3, _ => exact c3
    have eg : ∀ args w, (callFunc 19 args).run Try.prog w = .ok (.enter 19 args) w := enters_of Try.func19 (by kernel_rfl) rfl
    have hcmp : CmpLays Try.prog 19 #[] encI 4 cmpI g 0 d.toArray.size w := fun _ _ _ _ x y => clos19 x.1 y.1 _
    have hcon := AnyQ.slices_SortFunc Try.sortIS 4 Try.isAgg33 Try.sizeOf33 encI (fun _ => rfl) (fun x v hv => by simp [encI, enc33] at hv; rcases hv with rfl | rfl | rfl | rfl <;> rfl) cmpI swoI 19 #[] g 0 cap d.toArray w eg hcmp hH hglt.1 (by simp; omega)
    change Calls Try.prog 18 _ _ _ at hcon
    refine hcon.mono ?_
    rintro e w' ⟨rfl, d', n, os, hp, hs, rfl⟩
    have hsz : d'.size = d.length := hp.1
    have hH' : HoldsK encI 4 (sortWorldK encI 4 w g 0 n d' os) g 0 d' := holdsK_sortWorldK_c encI 4 w g 0 d.toArray d' n os hH hglt.1 (by rw [hsz]; rfl)
    obtain ⟨_, hcap, _⟩ := Kd.R_reads' hR
    refine ⟨rfl, some ⟨g, 0, none⟩, cap, d'.toList.map (·.1), by simp [hsz], ?_, ?_, by simp [hsz]; exact hcap, ?_, below_sort _ _ _ _ _ _ _ _ hB hg⟩
    · have h := hp.2.2
      have e1 : d'.extract 0 d.toArray.size = d' := by
        have : d.toArray.size = d'.size := by rw [hsz]; rfl
        rw [this]
        simp
      rw [e1] at h
      have h2 : d'.toList.Perm d := by simpa using h
      exact h2.map _
    · rw [List.pairwise_map, List.pairwise_iff_getElem]
      intro i j hi' hj' hij
      simp only [Array.length_toList] at hi' hj'
      have h := hs i j (Nat.zero_le _) hij (by show j < d.length; omega)
      rw [ltI] at h
      simp only [hi', hj', getElem!_pos, decide_eq_false_iff_not] at h
      simp only [Array.getElem_toList]
      omega
    · refine ⟨rfl, by simp [hsz]; omega, fun _ => ⟨_, rfl, fun j p hj => ?_⟩⟩
      rw [List.getElem?_map] at hj
      obtain ⟨y, hy, rfl⟩ := Option.map_eq_some_iff.1 hj
      obtain ⟨hjl, hy'⟩ := List.getElem?_eq_some_iff.1 hy
      have hjs : j < d'.size := by simpa using hjl
      have e : d'[j]! = y := by rw [← hy']; simp [hjs]
      refine ⟨enc33 y.1, rfl, k33_mk _ _, fun i u hu => ?_⟩
      have hi4 : i < 4 := (List.getElem?_eq_some_iff.1 hu).1
      have h := (HoldsK.cell hH' (i := j) (c := i) hjs hi4).1
      rw [e] at h
      show World.cell? _ ((⟨g, 0, none⟩ : Addr).add (j * 4 + i)) = _
      rw [add_at, ← Nat.add_assoc, h]
      obtain ⟨hl, hu'⟩ := List.getElem?_eq_some_iff.1 hu
      show some ((enc33 y.1)[i]!) = some u
      rw [getElem!_pos (enc33 y.1) i hl]; exact congrArg some hu'
end Go.Proofs.Ytmjdeejccmcpnaa.Q
