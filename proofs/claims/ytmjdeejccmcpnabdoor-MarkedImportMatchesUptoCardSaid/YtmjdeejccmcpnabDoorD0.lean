/- slices.SortFunc at the attributes of a character. -/
import Derived.Test.YtmjdeejccmcpnabDoorC0
namespace Go.Proofs.YtmjdeejccmcpnabDoor.Q
open Go.RowKit Go.Proofs.YtmjdeejccmcpnabDoorW.PrintWords Go.Proofs.YtmjdeejccmcpnabDoorW.PrintLast Go.Proofs.YtmjdeejccmcpnabDoorW.PrintMore Go.Sort Go.Shelf
set_option linter.unusedVariables false
set_option linter.unusedSimpArgs false
def nm : Fin 5 → ByteArray
  | 0 => ⟨#[98, 111, 108, 100]⟩
  | 1 => ⟨#[102, 105, 120, 101, 100]⟩
  | 2 => ⟨#[105, 116, 97, 108, 105, 99]⟩
  | 3 => ⟨#[108, 105, 110, 107]⟩
  | 4 => ⟨#[115, 116, 114, 105, 107, 101]⟩
def vv (k : ByteArray) (i : Fin 5) : ByteArray := if i = 3 then k else ⟨#[111, 110]⟩
def dec5 (k : ByteArray) (i : Fin 5) : S32 := ⟨nm i, vv k i⟩
def enc5 (k : ByteArray) (i : Fin 5) : List Value := [.string (nm i), .string (vv k i)]
def cmp5 (x y : Fin 5) : Int := Lib.compareBytes (nm x).data.toList (nm y).data.toList
theorem lt5 : ∀ x y : Fin 5, ltOf cmp5 x y = decide (x < y) := by decide
theorem swo5 : SWO (ltOf cmp5) where
  irrefl x := by rw [lt5]; simp
  trans x y z h1 h2 := by rw [lt5] at *; simp at *; omega
  ntrans x y z h1 h2 := by rw [lt5] at *; simp at *; omega
theorem clos56 (a b c d : ByteArray) (w : World) :
    Calls Tryd.prog 56 #[.agg #[.string a, .string b], .agg #[.string c, .string d]] w fun e w' => e = .returned (.int .i64 (Lib.compareBytes a.data.toList c.data.toList)) ∧ ∃ q os', w' = grow (w.drewN q) os' := by
  go_enter Tryd.func56, Tryd.ntmps56
  go_wp2_with (go_at_call 57; refine (Tryd.strings_Compare _ _ _).mono ?_; rintro e w' ⟨rfl, rfl⟩)
  go_ret
  exact ⟨rfl, 0, _, by rw [alloc_eq_grow, alloc_eq_grow, grow_grow]; rfl⟩
theorem heap_putRowK_other {α : Type} [Inhabited α] (enc : α → List Value) (k : Nat) (w : World) (blk off : Nat) (d : Array α) (i : Nat) (h : i ≠ blk) : (putRowK enc k w blk off d).heap[i]? = w.heap[i]? := by
  unfold putRowK putRow mapBlock
  simp only [Array.getElem?_modify]
  rw [if_neg (Ne.symm h)]
theorem below_sort {α : Type} [Inhabited α] (enc : α → List Value) (k : Nat) (B : Nat) (w0 w : World) (blk n : Nat) (d : Array α) (os : Array Obj) (hB : Below B w0 w) (hw : B ≤ w.heap.size) (hb : B ≤ blk) : Below B w0 (sortWorldK enc k w blk 0 n d os) := by
  have hs : (putRowK enc k (Sort.ahead w n) blk 0 d).heap.size = w.heap.size := size_putRow _ _ _ _ _
  refine hB.trans ⟨rfl, rfl, rfl, ?_, fun i hi => ?_⟩
  · show w.heap.size ≤ ((putRowK enc k (Sort.ahead w n) blk 0 d).heap ++ os).size
    rw [Array.size_append]
    omega
  · show ((putRowK enc k (Sort.ahead w n) blk 0 d).heap ++ os)[i]? = _
    rw [Array.getElem?_append_left (by omega), heap_putRowK_other _ _ _ _ _ _ _ (by omega)]
    rfl
theorem heap_sortedK {α : Type} [Inhabited α] (enc : α → List Value) (k : Nat) {w : World} {g n : Nat} {os : Array Obj} {cur : Array Value} {e : TypeId} {fr : Nat × Nat} (d : Array α) (hb : w.heap[g]? = some (.cells cur e fr)) :
    (sortWorldK enc k w g 0 n d os).heap[g]? = some (.cells (putCells id 0 (flatK enc k d) cur) e fr) := by
  have hg : g < w.heap.size := (Array.getElem?_eq_some_iff.1 hb).1
  unfold sortWorldK putRowK
  rw [heap_grow_old _ _ (by simpa using hg)]
  simp [putRow, mapBlock, Sort.ahead, Array.getElem?_modify, hb, onCells]
theorem take_putCellsK (cur F : Array Value) (h : F.size ≤ cur.size) : (putCells id 0 F cur).toList.take F.size = F.toList := by
  apply List.ext_getElem?
  intro j
  by_cases hj : j < F.size
  · rw [List.getElem?_take_of_lt hj, Array.getElem?_toList, Array.getElem?_toList]
    simp [putCells, hj, show j < cur.size by omega]
  · rw [List.getElem?_take_eq_none (by omega), List.getElem?_eq_none (by simp; omega)]
theorem flat2 {α : Type} [Inhabited α] (enc : α → List Value) (h2 : ∀ x, (enc x).length = 2) (d : Array α) (j : Nat) (hj : j < d.size) : ((flatK enc 2 d).toList.drop (j * 2)).take 2 = enc d[j]! := by
  apply List.ext_getElem?
  intro i
  by_cases hi : i < 2
  · have hx : j * 2 + i < d.size * 2 := by omega
    rw [List.getElem?_take_of_lt hi, List.getElem?_drop, Array.getElem?_toList]
    have := get_flatK enc 2 d (j * 2 + i) hx
    rw [show (j * 2 + i) / 2 = j by omega, show (j * 2 + i) % 2 = i by omega] at this
    have hs : j * 2 + i < (flatK enc 2 d).size := by rw [size_flatK]; exact hx
    rw [getElem!_pos (flatK enc 2 d) (j * 2 + i) hs] at this
    rw [Array.getElem?_eq_getElem hs, this]
    have hl := h2 d[j]!
    rw [getElem!_pos (enc d[j]!) i (by omega), List.getElem?_eq_getElem (by omega)]
  · rw [List.getElem?_take_eq_none (by omega), List.getElem?_eq_none (by rw [h2]; omega)]
theorem sort5 (k : ByteArray) (d t : List (Fin 5)) (hp : d.Perm t) (ht : t.Pairwise (· < ·)) (hl5 : d.length ≤ 5) (v : Value) (w0 w : World) (B : Nat) (hR : Kd.R k32 32 w B (fun _ => True) v (d.map (dec5 k))) (hB : Below B w0 w) (hw : B ≤ w.heap.size) :
    Calls Tryd.prog 55 #[v, .func (.func 56) #[] #[]] w fun e w' => e = .returned (.tuple #[]) ∧ Kd.R k32 32 w' B (fun _ => True) v (t.map (dec5 k)) ∧ Below B w0 w' := by
  rcases Nat.eq_zero_or_pos d.length with h0 | h0
  · obtain rfl : d = [] := List.eq_nil_of_length_eq_zero h0
    obtain rfl : t = [] := hp.symm.eq_nil
    obtain ⟨A, c, rfl, hc, hC⟩ := Kd.R_reads hR
    have hcon := AnyF.slices_SortFunc_none Tryd.sortAttr A c (.func (.func 56) #[] #[]) w
    change Calls Tryd.prog 55 _ _ _ at hcon
    exact hcon.mono fun e w' ⟨he, hw⟩ => ⟨he, by rw [hw]; exact hR, by rw [hw]; exact hB⟩
  · obtain ⟨g, cap, rfl, hg, hglt⟩ := Kd.R_form hR (by simpa using h0)
    obtain ⟨_, inner, hown, hreps⟩ := hR
    obtain ⟨hil, hown2⟩ := hown
    rcases hown2 with ⟨hv, _⟩ | ⟨g', cap', cur, hv, hbase, hheap, hn, hcm, hcs, hct⟩
    · cases hv
    cases hv
    simp only [List.length_map] at *
    have hil : inner.length = d.length * 2 := hil
    have hcs : cur.size = cap * 2 := hcs
    have hct : List.take (d.length * 2) cur.toList = inner := hct
    have hH : HoldsK (enc5 k) 2 w g 0 d.toArray := by
      intro t' ht'
      rw [size_flatK] at ht'
      simp only [List.size_toArray] at ht'
      have hq : t' / 2 < d.length := by omega
      have h1 := hreps.2 (t' / 2) _ (by rw [List.getElem?_map, List.getElem?_eq_getElem hq]; rfl)
      have h2 := k32_openM h1
      rw [Nat.zero_add, get_flatK _ _ _ _ (by simpa using ht')]
      refine ⟨?_, by simp [World.frozen?, hheap]⟩
      have h3 : cur[t']? = inner[t']? := by
        rw [← hct, ← Array.getElem?_toList, List.getElem?_take_of_lt (by omega)]
      have h4 : inner[t']? = (enc5 k d.toArray[t' / 2]!)[t' % 2]? := by
        have e1 : d.toArray[t' / 2]! = d[t' / 2] := by simp [hq]
        rw [e1]
        have : ((inner.drop (t' / 2 * 2)).take 2)[t' % 2]? = inner[t']? := by
          rw [List.getElem?_take_of_lt (Nat.mod_lt _ (by decide)), List.getElem?_drop]
          congr 1
          omega
        rw [← this]
        exact congrArg (·[t' % 2]?) h2
      have h5 : t' % 2 < (enc5 k d.toArray[t' / 2]!).length := Nat.mod_lt _ (by decide)
      show World.cell? _ _ = _
      simp only [World.cell?, hheap]
      simp only [Option.isSome_none, Bool.false_eq_true, if_false]
      rw [h3, h4, List.getElem?_eq_getElem h5, getElem!_pos (enc5 k d.toArray[t' / 2]!) _ h5]
      rfl
    have eg : ∀ args w, (callFunc 56 args).run Tryd.prog w = .ok (.enter 56 args) w := enters_of Tryd.func56 (by kernel_rfl) rfl
    have hcmp : CmpLays Tryd.prog 56 #[] (enc5 k) 2 cmp5 g 0 d.toArray.size w := fun _ _ _ _ x y => clos56 _ _ _ _ _
    have hcon := AnyQ.slices_SortFunc Tryd.sortAttr 2 Tryd.isAgg32 Tryd.sizeOf32 (enc5 k) (fun _ => rfl) (fun x v hv => by simp [enc5] at hv; rcases hv with rfl | rfl <;> rfl) cmp5 swo5 56 #[] g 0 cap d.toArray w eg hcmp hH hglt.1 (by simp; omega)
    change Calls Tryd.prog 55 _ _ _ at hcon
    refine hcon.mono ?_
    rintro e w' ⟨rfl, d', n, os, hp', hs, rfl⟩
    have hsz : d'.size = d.length := hp'.1
    have hd't : d'.toList = t := by
      have h := hp'.2.2
      have e1 : d'.extract 0 d.toArray.size = d' := by
        have : d.toArray.size = d'.size := by rw [hsz]; rfl
        rw [this]
        simp
      rw [e1] at h
      have h2 : d'.toList.Perm d := by simpa using h
      have h3 : d'.toList.Perm t := h2.trans hp
      refine List.Perm.eq_of_pairwise (le := fun a b => a ≤ b) ?_ ?_ ?_ h3
      · intro a b _ _ h1 h2; omega
      · rw [List.pairwise_iff_getElem]
        intro i j hi' hj' hij
        simp only [Array.length_toList] at hi' hj'
        have h := hs i j (Nat.zero_le _) hij (by show j < d.length; omega)
        rw [lt5] at h
        simp only [hi', hj', getElem!_pos, decide_eq_false_iff_not] at h
        simp only [Array.getElem_toList]
        omega
      · exact ht.imp (fun h => Fin.le_of_lt h)
    have htl : t.length = d.length := hp.length_eq.symm
    refine ⟨rfl, ⟨fun _ _ => trivial, (flatK (enc5 k) 2 d').toList, ⟨by show _ = _ * 2; simp [htl, hsz], .inr ⟨g, cap, _, ?_, hbase, heap_sortedK (enc5 k) 2 d' hheap, by simpa [htl] using hn, hcm, by show _ = cap * 2; simp [putCells, hcs], ?_⟩⟩, ?_⟩, below_sort _ _ _ _ _ _ _ _ _ hB hw hg⟩
    · simp [htl]
    · show List.take (_ * 2) _ = _
      have := take_putCellsK cur (flatK (enc5 k) 2 d') (by rw [size_flatK, hsz, hcs]; exact Nat.mul_le_mul_right 2 hn)
      rw [size_flatK, hsz] at this
      simpa [htl] using this
    · refine ⟨by show _ = _ * 2; simp [htl, hsz], fun j p hj => ?_⟩
      rw [List.getElem?_map] at hj
      obtain ⟨y, hy, rfl⟩ := Option.map_eq_some_iff.1 hj
      obtain ⟨hjl, hy'⟩ := List.getElem?_eq_some_iff.1 hy
      have hjs : j < d'.size := by omega
      have e : d'[j]! = y := by
        rw [← hy']
        simp only [← hd't]
        simp [hjs]
      have hf := flat2 (enc5 k) (fun _ => rfl) d' j hjs
      show k32.M _ _ _ (dec5 k y) _
      rw [show k32.sz = 2 from rfl, hf, e]
      exact k32_mkM _ _ _ _
end Go.Proofs.YtmjdeejccmcpnabDoor.Q
