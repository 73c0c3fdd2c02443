/- Import: the lines, in plain words, and the walk. -/
import Derived.Test.YtmjdeejccmcpnabDoorH0
namespace Go.Proofs.YtmjdeejccmcpnabDoor.Q
open Go.RowKit Go.Proofs.YtmjdeejccmcpnabDoorW.PrintWords Go.Proofs.YtmjdeejccmcpnabDoorW.PrintLast Go.Proofs.YtmjdeejccmcpnabDoorW.PrintMore
set_option linter.unusedVariables false
set_option linter.unusedSimpArgs false
def linesOf (s : ByteArray) : List ByteArray := Lib.splitB ⟨#[10]⟩ 0 (Lib.countB s ⟨#[10]⟩) s
def cut13 (s : ByteArray) : ByteArray := ⟨(Lib.trimSuffix s.data.toList [13]).toArray⟩
/-- the first k lines without their \r -/
def trTo (ls : List ByteArray) (k : Nat) : List ByteArray := (ls.take k).map cut13 ++ ls.drop k
def keepN (ls : List ByteArray) : Nat := if 1 < ls.length ∧ (ls.getD (ls.length - 1) ⟨#[]⟩).size = 0 then ls.length - 1 else ls.length
def z43 : Rdr := ⟨[], [], false, false, false, false, ⟨#[]⟩⟩
/-- a paragraph read -/
def para (st : Rdr) (l : ByteArray) : Rdr :=
  { (fin (l0 (marksR l).1 st)).st with o := (fin (l0 (marksR l).1 st)).st.o ++ [⟨10, 0, (marksR l).2⟩] }
def impR (s : ByteArray) : Rdr := ((trTo (linesOf s) ((linesOf s).length - 1)).take (keepN (linesOf s))).foldl para z43
theorem trTo_len (ls : List ByteArray) (k : Nat) : (trTo ls k).length = ls.length := by
  unfold trTo
  simp
  omega
theorem trTo_at (ls : List ByteArray) (k : Nat) (h : k < ls.length) : (trTo ls k)[k]? = ls[k]? := by
  unfold trTo
  rw [List.getElem?_append_right (by simp; omega)]
  simp [Nat.min_eq_left (Nat.le_of_lt h)]
theorem trTo_succ (ls : List ByteArray) (k : Nat) (h : k < ls.length) : (trTo ls k).set k (cut13 ls[k]) = trTo ls (k + 1) := by
  have e : k - ((ls.take k).map cut13).length = 0 := by simp; omega
  unfold trTo
  rw [List.set_append_right _ _ (by simp; omega), e, List.drop_eq_getElem_cons h, List.set_cons_zero, List.take_succ_eq_append_getElem h, List.map_append, List.append_assoc]
  rfl
def tot (ls : List ByteArray) : Nat := (ls.map ByteArray.size).sum
theorem tot_cons (a : ByteArray) (ls : List ByteArray) : tot (a :: ls) = a.size + tot ls := by simp [tot]
theorem tot_append (a b : List ByteArray) : tot (a ++ b) = tot a + tot b := by simp [tot]
theorem tot_drop (ls : List ByteArray) (j : Nat) (h : j < ls.length) : tot (ls.drop j) = ls[j].size + tot (ls.drop (j + 1)) := by rw [List.drop_eq_getElem_cons h, tot_cons]
theorem tot_take (ls : List ByteArray) (j : Nat) : tot (ls.take j) ≤ tot ls := by
  have := tot_append (ls.take j) (ls.drop j)
  rw [List.take_append_drop] at this
  omega
theorem ext_size (s : ByteArray) (a b : Nat) (h : b ≤ s.size) : (s.extract a b).size = b - a := by simp [ByteArray.size_extract]; omega
theorem tot_split (s : ByteArray) (k : Nat) : tot (Lib.splitB ⟨#[10]⟩ 0 k s) ≤ s.size := by
  induction k generalizing s with
  | zero => rw [Lib.splitB_zero]; simp [tot]
  | succ k ih =>
    unfold Lib.splitB
    split
    · simp [tot]
    · rw [tot_cons]
      have := ih (s.extract ((Lib.indexB s ⟨#[10]⟩).toNat + (⟨#[10]⟩ : ByteArray).size) s.size)
      rw [ext_size _ _ _ (Nat.le_refl _)] at this
      have e : (⟨#[10]⟩ : ByteArray).size = 1 := rfl
      rw [e] at this ⊢
      have h2 : (s.extract 0 ((Lib.indexB s ⟨#[10]⟩).toNat + 0)).size ≤ (Lib.indexB s ⟨#[10]⟩).toNat := by simp [ByteArray.size_extract]; omega
      have h3 : (s.extract 0 ((Lib.indexB s ⟨#[10]⟩).toNat + 0)).size ≤ s.size := by simp [ByteArray.size_extract]; omega
      omega
theorem cut13_le (s : ByteArray) : (cut13 s).size ≤ s.size := by
  have h : (cut13 s).size = (Lib.trimSuffix s.data.toList [13]).length := rfl
  rw [h]
  unfold Lib.trimSuffix
  split
  · rw [List.length_take, ← size_list]; omega
  · rw [← size_list]; exact Nat.le_refl _
theorem tot_cut (ls : List ByteArray) : tot (ls.map cut13) ≤ tot ls := by
  induction ls with
  | nil => simp [tot]
  | cons a r ih =>
    rw [List.map_cons, tot_cons, tot_cons]
    have := cut13_le a
    omega
theorem tot_tr (ls : List ByteArray) (k : Nat) : tot (trTo ls k) ≤ tot ls := by
  unfold trTo
  rw [tot_append]
  have h1 := tot_cut (ls.take k)
  have h2 := tot_append (ls.take k) (ls.drop k)
  rw [List.take_append_drop] at h2
  omega
theorem marksR_le (s : ByteArray) : (marksR s).1.size ≤ s.size := by
  unfold marksR
  repeat' split
  all_goals (simp only [tl_size]; omega)
def mxl (st : Rdr) : Nat := max st.o.length st.l.length
theorem fin_len (s : ByteArray) (st : Rdr) : (fin (l0 s st)).st.o.length ≤ mxl st + s.size ∧ (fin (l0 s st)).st.l.length ≤ mxl st + s.size := by
  have h1 := fin_LI (M := mxl st + s.size) _ (l0 s st) (Nat.le_refl _) ⟨.inl rfl, by show st.o.length + s.size ≤ _; unfold mxl; omega, by show st.l.length + s.size ≤ _; unfold mxl; omega⟩
  exact ⟨by have := h1.o; omega, by have := h1.l; omega⟩
theorem para_len (st : Rdr) (l : ByteArray) : mxl (para st l) ≤ mxl st + l.size + 1 := by
  have h1 := fin_len (marksR l).1 st
  have h2 := marksR_le l
  show max (List.length (_ ++ [_])) _ ≤ _
  rw [List.length_append, List.length_singleton]
  show max _ (fin (l0 (marksR l).1 st)).st.l.length ≤ _
  omega
def LB (W : World) (g : Nat) (ls : List ByteArray) : Prop := W.heap[g]? = some (.cells (List.map Value.string ls).toArray 9 (0, 0))
def RZ (W : World) (r : Nat) : Prop := W.heap[r]? = some (.cells #[.slice none 0 0, .slice none 0 0, .bool false, .bool false, .bool false, .bool false, .string ⟨#[]⟩] 43 (0, 0))
theorem LB.at {W : World} {g k : Nat} {ls : List ByteArray} {x : ByteArray} (h : LB W g ls) (hx : ls[k]? = some x) : W.cell? ⟨g, k, none⟩ = some (.string x) := by
  rw [blk_cell h k]
  simp [hx]
theorem LB.put {W : World} {g : Nat} {ls : List ByteArray} (h : LB W g ls) (k : Nat) (x : ByteArray) : LB (W.setCell ⟨g, k, none⟩ (.string x)) g (ls.set k x) := by
  refine blk_put h k _ ?_
  simp [List.map_set]
theorem tot_mem (ls : List ByteArray) (k : Nat) (h : k < ls.length) : ls[k].size ≤ tot ls := by
  have h1 := tot_drop ls k h
  have h2 := tot_append (ls.take k) (ls.drop k)
  rw [List.take_append_drop] at h2
  omega
/-- the reader behind the first k lines -/
def sto (L : List ByteArray) (k : Nat) : Rdr := (L.take k).foldl para z43
theorem sto_succ (L : List ByteArray) (k : Nat) (h : k < L.length) : sto L (k + 1) = para (sto L k) L[k] := by
  unfold sto
  rw [List.take_succ_eq_append_getElem h, List.foldl_append]
  rfl
theorem fold_len : ∀ (l : List ByteArray) (st : Rdr), mxl (l.foldl para st) ≤ mxl st + tot l + l.length
  | [], st => by simp [tot]
  | a :: r, st => by
    have h1 := fold_len r (para st a)
    have h2 := para_len st a
    rw [tot_cons, List.foldl_cons, List.length_cons]
    omega
theorem sto_len (L : List ByteArray) (k : Nat) : mxl (sto L k) ≤ tot (L.take k) + k := by
  have h := fold_len (L.take k) z43
  have e : mxl z43 = 0 := rfl
  have h2 : (L.take k).length ≤ k := List.length_take_le _ _
  unfold sto
  omega
section
variable {α β : Type} {d : Kd α} {d' : Kd β} {e e' : TypeId} {w w' : World} {base b' r B : Nat} {ok ok' : Nat → Prop} {v u : Value} {xs : List α} {ys : List β}
/-- a row of another kind than the reader's stays -/
theorem R_fr (hv : d.R e w base ok v xs) (hf : Fr r B w w') (hr : ∃ c, w.heap[r]? = some (.cells c 43 (0, 0))) (ht : ∀ q, q ∈ e :: d.E → q ≠ 30 ∧ q ≠ 38 ∧ q ≠ 43) : d.R e w' base ok v xs :=
  Kd.R_mono (Kd.R_move (Kd.R_bound hv) (fun k hk => by
    obtain ⟨_, _, _, q, hq, cells, hc⟩ := hk
    obtain ⟨c, hr⟩ := hr
    exact hf.ty k cells q hc (blk_ne hc hr (ht q hq).2.2) (ht q hq).1 (ht q hq).2.1)) (fun _ hk => hk.1)
theorem R_typed (hv : d.R e w base ok v xs) (hu : d'.R e' w b' ok' u ys) (ht : ∀ q, q ∈ e :: d.E → q ≠ e') : d.R e w base (fun k => some k ≠ u.ownBlock) v xs :=
  Kd.R_mono (Kd.R_bound hv) (fun k hk => by
    obtain ⟨_, _, _, q, hq, cells, hc⟩ := hk
    exact Kd.R_ne hu hc (Ne.symm (ht q hq)))
end
set_option maxHeartbeats 4000000 in
set_option maxRecDepth 100000 in
theorem import_ok (s : ByteArray) (m : Int) (w : World) (hT : Tgl w) (hU : Lib.Utf8Tabs 2 3 w) (hm : w.cell? ⟨1, 0, none⟩ = some (.int .i64 m)) (h4 : 3 < w.heap.size) (hs : s.size ≤ 1048576) :
    Calls Tryd.prog 4 #[.string s] w fun e w' => (∃ vo vl, e = .returned (.tuple #[vo, vl, .int .i64 0]) ∧ Kd.R k30 30 w' w.heap.size (fun _ => True) vo (impR s).o ∧ Kd.R k38 38 w' w.heap.size (fun _ => True) vl (impR s).l) ∧ Below w.heap.size w w' := by
  have HT := Aside0.mk hT
  have HU := Aside0.mk hU
  have H4 := Aside0.mk h4
  have hm2 : ∀ o, (w.alloc o).cell? ⟨1, 0, none⟩ = some (.int .i64 m) := fun o => pw_cell_below (below_alloc (Below.refl _ _) o) hm
  clear hT hU
  go_enter Tryd.func4, Tryd.ntmps4
  go_upto_region 3 with (go_at_call 9; refine (Tryd.strings_Split s ⟨#[10]⟩ m _ (by omega) (hm2 _) (by decide)).mono ?_; rintro e w2 ⟨rfl, hw2⟩)
  have hN := Lib.splitB_all ⟨#[10]⟩ (by decide) 0 _ s rfl
  obtain ⟨ls, hls⟩ : ∃ ls, Lib.splitB ⟨#[10]⟩ 0 (Lib.countB s ⟨#[10]⟩) s = ls := ⟨_, rfl⟩
  rw [hls] at hN
  simp only [hls]
  have HLS := Aside0.mk (show linesOf s = ls from hls)
  obtain ⟨N, hNN⟩ : ∃ N, Lib.countB s ⟨#[10]⟩ + 1 = N := ⟨_, rfl⟩
  rw [hNN] at hN
  simp only [hNN]
  have HN := Aside0.mk hN
  have HN1 := Aside0.mk (show 1 ≤ N ∧ N ≤ 1048577 from And.intro (by omega) (by have := Lib.countB_le ⟨#[10]⟩ (by decide) s.size s (Nat.le_refl _); omega))
  clear hNN hN hls hw2 hm2 hm
  have HTOT := Aside0.mk (show tot ls ≤ 1048576 by rw [← HLS.out]; exact Nat.le_trans (tot_split s _) hs)
  have HX := Aside0.mk (blk_alloc (blk_new w (.cells #[.slice none 0 0, .slice none 0 0, .bool false, .bool false, .bool false, .bool false, .string ⟨#[]⟩] 43)) (.cells (List.map Value.string ls).toArray 9))
  have HG := Aside0.mk (blk_new (w.alloc (.cells #[.slice none 0 0, .slice none 0 0, .bool false, .bool false, .bool false, .bool false, .string ⟨#[]⟩] 43)) (.cells (List.map Value.string ls).toArray 9))
  have HW := Aside0.mk (below_alloc (below_alloc (Below.refl w.heap.size w) (.cells #[.slice none 0 0, .slice none 0 0, .bool false, .bool false, .bool false, .bool false, .string ⟨#[]⟩] 43)) (.cells (List.map Value.string ls).toArray 9))
  obtain ⟨w2, h2⟩ : ∃ w2, (w.alloc (.cells #[.slice none 0 0, .slice none 0 0, .bool false, .bool false, .bool false, .bool false, .string ⟨#[]⟩] 43)).alloc (.cells (List.map Value.string ls).toArray 9) = w2 := ⟨_, rfl⟩
  have HSZ := Aside0.mk (show w2.heap.size = w.heap.size + 2 by rw [← h2]; simp)
  rw [h2] at HX HG HW ⊢
  have HG := Aside0.mk (show w2.heap[w.heap.size + 1]? = some (.cells (List.map Value.string ls).toArray 9 (0, 0)) by have := HG.out; simpa using this)
  obtain ⟨r, hr⟩ : ∃ r, w.heap.size = r := ⟨_, rfl⟩
  rw [hr] at HX HG HSZ
  simp only [hr]
  have HRW := Aside0.mk hr
  clear h2 hr h4
  have hN1 : 1 ≤ N := HN1.out.1
  have hN2 : N ≤ 1048577 := HN1.out.2
  go_wp2_with fail
  have HZ0 := Aside0.mk (show trTo ls 0 = ls by simp [trTo])
  go_loopg [20] N (fun gk v20 wr => ∃ k : Nat, k ≤ N - 1 ∧ N - 1 - k ≤ gk ∧ v20 = .int .i64 (k : Int) ∧ Aside0 (LB wr (r + 1) (trTo ls k)) ∧ Aside0 (RZ wr r) ∧ Aside0 (wr.heap.size = r + 2) ∧ Aside0 (Below w.heap.size w wr))
  case atStart => exact ⟨0, by omega, by omega, rfl, ⟨by rw [HZ0.out]; exact HG.out⟩, HX, HSZ, HW⟩
  case round =>
    clear HX HG HW HSZ HZ0
    obtain ⟨k, hk, hgk, rfl, HL, HX, HSZ, HW⟩ := hrel
    by_cases hlt : k < N - 1
    · have hkl : k < ls.length := by rw [HN.out]; omega
      have hlb : decide ((k : Int) < (N : Int) - 1) = true := decide_eq_true (by omega)
      have q0 : ((k : Int) < (N : Int)) = True := eq_true (by omega)
      have hkN : k < N := by omega
      have x0 : wr.cell? ⟨r + 1, k, none⟩ = some (.string (ls[k]'hkl)) := HL.out.at ((trTo_at ls k hkl).trans (List.getElem?_eq_getElem hkl))
      have f0 : wr.frozen? ⟨r + 1, k, none⟩ = false := blk_frozen HL.out k
      obtain ⟨x, hx⟩ : ∃ x, ls[k]'hkl = x := ⟨_, rfl⟩
      rw [hx] at x0
      have HXX := Aside0.mk (show (trTo ls k).set k (cut13 x) = trTo ls (k + 1) by rw [← hx]; exact trTo_succ ls k hkl)
      have HXS := Aside0.mk (show x.size ≤ 9223372036854775807 by have := HTOT.out; have h := tot_mem ls k hkl; rw [hx] at h; omega)
      clear hx hkl
      go_wp2_with (go_at_call 10; refine (Tryd.strings_TrimSuffix x ⟨#[13]⟩ _ HXS.out).mono ?_; rintro e w5 ⟨rfl, rfl⟩)
      go_roundg (N - 1 - (k + 1))
      case measure => omega
      case rel => exact ⟨k + 1, by omega, by omega, by go_num, ⟨by rw [← HXX.out]; exact HL.out.put k (cut13 x)⟩, ⟨blk_far HX.out (p := ⟨r + 1, k, none⟩) (by show r ≠ r + 1; omega) (.string (cut13 x))⟩, ⟨by rw [← HSZ.out]; simp [World.setCell]⟩, ⟨HW.out.setCell (p := ⟨r + 1, k, none⟩) (by show w.heap.size ≤ r + 1; have := HRW.out; omega) (.string (cut13 x))⟩⟩
    · have hkN : k = N - 1 := by omega
      subst hkN
      have hnl : N - 1 < ls.length := by rw [HN.out]; omega
      have x0 : wr.cell? ⟨r + 1, N - 1, none⟩ = some (.string (ls[N - 1]'hnl)) := HL.out.at ((trTo_at ls (N - 1) hnl).trans (List.getElem?_eq_getElem hnl))
      obtain ⟨x, hx⟩ : ∃ x, ls[N - 1]'hnl = x := ⟨_, rfl⟩
      rw [hx] at x0
      have HK := Aside0.mk (show keepN ls = if 1 < N ∧ x.size = 0 then N - 1 else N by
        unfold keepN
        rw [HN.out, List.getD_eq_getElem?_getD, List.getElem?_eq_getElem hnl, hx]
        rfl)
      clear hx hnl
      have hcast : ((N - 1 : Nat) : Int) = (N : Int) - 1 := by omega
      go_upto_region 9 with fail
      go_cut [43] (fun v43 wc => v43 = .bool (decide (1 < N ∧ x.size = 0)) ∧ wc = wr)
      case first =>
        by_cases h1 : 1 < N
        · have d1 : decide ((1 : Int) < (N : Int)) = true := decide_eq_true (by omega)
          have q1 : (((N : Int) - 1) < (N : Int)) = True := eq_true (by omega)
          by_cases hx0 : x.size = 0
          · have hb1 : x.toList.isEmpty = true := by rw [str_empty]; exact decide_eq_true hx0
            have HQ := Aside0.mk (show decide (1 < N ∧ x.size = 0) = true from decide_eq_true ⟨h1, hx0⟩)
            clear hx0
            go_wp2_with fail
            go_meet
            case rel => exact ⟨by rw [HQ.out], rfl⟩
          · have hb1 : x.toList.isEmpty = false := by rw [str_empty]; exact decide_eq_false hx0
            have HQ := Aside0.mk (show decide (1 < N ∧ x.size = 0) = false from decide_eq_false (fun h => hx0 h.2))
            clear hx0
            go_wp2_with fail
            go_meet
            case rel => exact ⟨by rw [HQ.out], rfl⟩
        · have d1 : decide ((1 : Int) < (N : Int)) = false := decide_eq_false (by omega)
          have HQ := Aside0.mk (show decide (1 < N ∧ x.size = 0) = false from decide_eq_false (fun h => h1 h.1))
          clear x0
          go_wp2_with fail
          go_meet
          case rel => exact ⟨by rw [HQ.out], rfl⟩
      case rest =>
        obtain ⟨rfl, rfl⟩ := hcut
        clear x0
        go_upto_if 43 with fail
        go_cut [6] (fun v6 wd => v6 = .slice (some ⟨r + 1, 0, none⟩) (keepN ls) N ∧ wd = wc)
        case first =>
          by_cases hb : 1 < N ∧ x.size = 0
          · have HQ := Aside0.mk (show keepN ls = N - 1 by rw [HK.out, if_pos hb])
            have h1 := hb.1
            rw [decide_eq_true hb]
            clear hb
            go_wp2_with fail
            go_meet
            case rel => exact ⟨by rw [HQ.out], rfl⟩
          · have HQ := Aside0.mk (show keepN ls = N by rw [HK.out, if_neg hb])
            rw [decide_eq_false hb]
            clear hb
            go_wp2_with fail
            go_meet
            case rel => exact ⟨by rw [HQ.out], rfl⟩
        case rest =>
          obtain ⟨rfl, rfl⟩ := hcut
          have HK2 := Aside0.mk (show keepN ls ≤ N by rw [HK.out]; split <;> omega)
          obtain ⟨K, hKK⟩ : ∃ K, keepN ls = K := ⟨_, rfl⟩
          have HKE := Aside0.mk hKK
          rw [hKK] at HK2 ⊢
          obtain ⟨L, hL⟩ : ∃ L, trTo ls (N - 1) = L := ⟨_, rfl⟩
          have HLE := Aside0.mk hL
          rw [hL] at HL
          have HLN := Aside0.mk (show L.length = N by rw [← hL, trTo_len, HN.out])
          have HTL := Aside0.mk (show tot L ≤ 1048576 by rw [← hL]; exact Nat.le_trans (tot_tr ls _) HTOT.out)
          have HIM := Aside0.mk (show impR s = sto L K by unfold impR sto; rw [HLS.out, hKK, HN.out, hL])
          have hK2 : K ≤ N := HK2.out
          have HR0 := Aside0.mk (show RdE (r + 2) wc r (sto L 0) from ⟨_, _, HX.out, Kd.R_nil _ _ _ _ _, Kd.R_nil _ _ _ _ _, trivial⟩)
          have HB0 := Aside0.mk (show r + 2 ≤ wc.heap.size from Nat.le_of_eq HSZ.out.symm)
          have H3r := Aside0.mk (show 3 < r + 2 ∧ 3 < r by have := H4.out; have := HRW.out; omega)
          have HTc := Aside0.mk (HT.out.below HW.out)
          have HUc := Aside0.mk (Utf8Tabs_belowB (r := w.heap.size) (B := w.heap.size) HU.out ⟨H4.out, H4.out⟩ (Fr.of HW.out (Nat.le_refl _)))
          clear HK HKE hKK hL HLE hcast
          go_wp2_with fail
          obtain ⟨wo, rfl⟩ : ∃ wo : World, wo = wc := ⟨_, rfl⟩
          go_loopg [50] K (fun gk v50 wr => ∃ k : Nat, k ≤ K ∧ K - k ≤ gk ∧ v50 = .int .i64 (k : Int) ∧ Aside0 (RdE (r + 2) wr r (sto L k)) ∧ Aside0 (Fr r (r + 2) wo wr))
          case atStart => exact ⟨0, by omega, by omega, rfl, HR0, ⟨Fr.refl _ _ _⟩⟩
          case round =>
            clear HR0
            obtain ⟨k, hk, hgk, rfl, HR, HF⟩ := hrel
            by_cases hlt : k < K
            · have hkl : k < L.length := by rw [HLN.out]; omega
              have hkb : decide (k < K) = true := decide_eq_true hlt
              have hkp : ((k : Int) < (K : Int)) = True := eq_true (by omega)
              have x0 : wr.cell? ⟨r + 1, k, none⟩ = some (.string (L[k]'hkl)) := (HF.out.cell (p := ⟨r + 1, k, none⟩) (by show r + 1 < r + 2; omega) (by show r + 1 ≠ r; omega)).trans (HL.out.at (List.getElem?_eq_getElem hkl))
              obtain ⟨x, hx⟩ : ∃ x, L[k]'hkl = x := ⟨_, rfl⟩
              rw [hx] at x0
              have HSS := Aside0.mk (show sto L (k + 1) = para (sto L k) x by rw [← hx]; exact sto_succ L k hkl)
              have HXS := Aside0.mk (show x.size ≤ 1048576 by have h := tot_mem L k hkl; rw [hx] at h; have := HTL.out; omega)
              have HXM := Aside0.mk (show mxl (sto L k) ≤ 2097153 by have h := sto_len L k; have h2 := tot_take L k; have := HTL.out; have := HN1.out; omega)
              clear hx hkl
              obtain ⟨st, hst⟩ : ∃ st, sto L k = st := ⟨_, rfl⟩
              rw [hst] at HR HSS HXM
              clear hst
              obtain ⟨R, hR⟩ : ∃ R, marksR x = R := ⟨_, rfl⟩
              obtain ⟨y, at1⟩ := R
              have HYS := Aside0.mk (show y.size ≤ 1048576 by have h := marksR_le x; rw [hR] at h; have := HXS.out; simp only at h; omega)
              have HPA := Aside0.mk (show para st x = { (fin (l0 y st)).st with o := (fin (l0 y st)).st.o ++ [⟨10, 0, at1⟩] } by unfold para; rw [hR])
              have HMO := Aside0.mk (marks_ok x wr (by have := HXS.out; omega))
              rw [hR] at HMO
              clear hR
              go_upto_region 16 with (first
                | (go_at_call 11; refine HMO.out.mono ?_; rintro e w2 ⟨⟨v, rfl, hv⟩, hb2⟩; obtain ⟨Av, cv, rfl⟩ := Kd.R_slice hv; have HV := Aside0.mk hv; have HR2 := Aside0.mk (show RdE (r + 2) w2 r st from (match HR.out with | ⟨vo, vl, h⟩ => ⟨vo, vl, h.below hb2⟩)); have HF2 := Aside0.mk (HF.out.trans (Fr.of hb2 (Nat.le_trans HB0.out HF.out.size))); have HVB := Aside0.mk (Nat.le_trans HB0.out HF.out.size); clear hv hb2)
                | (go_at_call 12; refine (line_ok (r + 2) r st y _ (HTc.out.belowB (by have := H3r.out; omega) HF2.out) (Utf8Tabs_belowB HUc.out H3r.out HF2.out) HR2.out (Nat.le_trans HB0.out HF2.out.size) H3r.out 4000000 (by decide) (by have h := HXM.out; unfold mxl at h; have := HYS.out; omega) (by have h := HXM.out; unfold mxl at h; have := HYS.out; omega)).mono ?_; rintro e w3 ⟨rfl, hR3, hF3⟩; have HR3 := Aside0.mk hR3; have HF3 := Aside0.mk (HF2.out.trans hF3); have HV3 := Aside0.mk (R_fr HV.out hF3 (match HR2.out with | ⟨_, _, h⟩ => ⟨_, h.h⟩) (by decide)); clear hR3 hF3))
              have HSE := Aside0.mk (show sto L (k + 1) = { (fin (l0 y st)).st with o := (fin (l0 y st)).st.o ++ [⟨10, 0, at1⟩] } from HSS.out.trans HPA.out)
              have HFL := Aside0.mk (show (fin (l0 y st)).st.o.length ≤ 4000000 by have h1 := (fin_len y st).1; have h := HXM.out; have := HYS.out; omega)
              clear HSS HPA
              obtain ⟨f, hf⟩ : ∃ f, (fin (l0 y st)).st = f := ⟨_, rfl⟩
              rw [hf] at HR3 HSE HFL
              clear hf
              obtain ⟨vo, vl, h3⟩ := HR3.out
              obtain ⟨Ao, co, rfl⟩ := Kd.R_slice h3.o
              have H3 := Aside0.mk h3
              have c0 : w3.cell? ⟨r, 0, none⟩ = some (.slice Ao f.o.length co) := h3.cells.1
              have hM := Aside0.mk (show k30.M w3 (r + 2) (fun k => some k ≠ (Value.slice Ao f.o.length co).ownBlock) ⟨10, 0, at1⟩ [.int .i64 10, .int .i64 0, .slice Av at1.length cv] from k30_mkM _ _ _ _ (Kd.R_lower (R_typed HV3.out h3.o (by decide)) HVB.out))
              clear h3 HR3
              go_wp2_with (at_builtin; refine Kd.R_append k30 (w0 := w3) (r + 2) rfl (.tmp 66) (.tmp 69) 22 30 _ 40 rfl Tryd.underlying22 info30 rfl (by decide) (by decide) (.slice Ao f.o.length co) f.o ⟨10, 0, at1⟩ [.int .i64 10, .int .i64 0, .slice Av at1.length cv] (fun _ => True) (fun k => some k ≠ (Value.slice Ao f.o.length co).ownBlock) rfl rfl hM.out (fun _ h => ⟨trivial, h⟩) (fun _ _ => trivial) H3.out.o (Below.refl _ _) (Nat.le_trans HB0.out HF3.out.size) (by have := HFL.out; omega) ?_; intro v7 w7 ho7 hb7 hg7 hat7; obtain ⟨A7, c7, hv7⟩ := Kd.R_slice ho7; obtain ⟨n7, hn7⟩ : ∃ n7, (f.o ++ [(⟨10, 0, at1⟩ : S30)]).length = n7 := ⟨_, rfl⟩; rw [hn7] at hv7; subst hv7; clear hn7; have HR7 := Aside0.mk (H3.out.appended_o ho7 hg7); have r0 : w7.cell? ⟨r, 0, none⟩ = some (.slice Ao f.o.length co) := (blk_cell (blk_grown H3.out.h hg7 (Kd.R_ne H3.out.o H3.out.h (by decide))) 0).trans rfl; have rf : w7.frozen? ⟨r, 0, none⟩ = false := blk_frozen (blk_grown H3.out.h hg7 (Kd.R_ne H3.out.o H3.out.h (by decide))) 0; have HF7 := Aside0.mk ((HF3.out.trans (Fr.ofR H3.out.o (.inl rfl) hb7 hg7)).setCell (p := ⟨r, 0, none⟩) rfl (.slice A7 n7 c7)); clear ho7 hb7 hg7 hat7)
              go_roundg (K - (k + 1))
              case measure => omega
              case rel => exact ⟨k + 1, by omega, by omega, by go_num, ⟨by rw [HSE.out]; exact ⟨_, _, HR7.out⟩⟩, HF7⟩
            · have hkK : k = K := by omega
              have hkb : decide (k < K) = false := decide_eq_false hlt
              subst hkK
              clear hlt
              obtain ⟨vo, vl, h3⟩ := HR.out
              obtain ⟨Ao, co, rfl⟩ := Kd.R_slice h3.o
              obtain ⟨Al, cl, rfl⟩ := Kd.R_slice h3.l
              have H3 := Aside0.mk h3
              have c0 : wr.cell? ⟨r, 0, none⟩ = some (.slice Ao (sto L k).o.length co) := h3.cells.1
              have c1 : wr.cell? ⟨r, 1, none⟩ = some (.slice Al (sto L k).l.length cl) := h3.cells.2.1
              clear h3 HR
              go_wp2_with fail
              go_quiet (fail)
              go_wp2_with fail
              go_ret3
              refine ⟨⟨_, _, rfl, ?_, ?_⟩, ?_⟩
              · rw [HIM.out]
                exact Kd.R_lower (Kd.R_drewN H3.out.o nq) (by have := HRW.out; omega)
              · rw [HIM.out]
                exact Kd.R_lower (Kd.R_drewN H3.out.l nq) (by have := HRW.out; omega)
              · have hF := HF.out
                exact HW.out.trans (pw_below_drewN ⟨hF.os, hF.tape, hF.output, hF.size, fun k hk => hF.block k (by have := HRW.out; omega) (by have := HRW.out; omega)⟩ nq)
end Go.Proofs.YtmjdeejccmcpnabDoor.Q
