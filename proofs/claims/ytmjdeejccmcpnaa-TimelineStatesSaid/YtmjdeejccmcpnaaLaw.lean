/- For every list of effects, every click and every time: TimelineStates returns true, and its arguments read afterwards as they read before.
   (No condition: a list longer than 30 is cut to 30 by the law itself; where the effects, the click or the time are not valid, both sides answer the same error.) -/
import Derived.Test.YtmjdeejccmcpnaaRows
import Derived.Test.YtmjdeejccmcpnaaP3
import Derived.WalkKit
import Derived.ProofKit
import Derived.OpenShut
import Derived.ShutString
import Derived.ChangeOld
import Derived.Below
import Derived.SizedLaws
import Derived.Deep.Slices
import Derived.Deep.Fields
import Derived.ChangeSame
namespace Go.Proofs.Ytmjdeejccmcpnaa.Q
open Go.RowKit Go.Proofs.YtmjdeejccmcpnaaW.PrintWords Go.Proofs.YtmjdeejccmcpnaaW.PrintLast Go.Proofs.YtmjdeejccmcpnaaW.PrintMore
set_option linter.unusedVariables false
set_option linter.unusedSimpArgs false
theorem mem_rd {l : List S37} {x : S37} (h : x ∈ l) : ∃ i : Nat, i < l.length ∧ rd_T37 l (i : Int) = x := by
  obtain ⟨i, hi, e⟩ := List.mem_iff_getElem.1 h
  refine ⟨i, hi, ?_⟩
  unfold rd_T37
  rw [Int.toNat_natCast, List.getD_eq_getElem?_getD, List.getElem?_eq_getElem hi, e]; rfl
theorem rd_mem {l : List S37} {i : Nat} (h : i < l.length) : rd_T37 l (i : Int) ∈ l := by
  unfold rd_T37
  rw [Int.toNat_natCast, List.getD_eq_getElem?_getD, List.getElem?_eq_getElem h]
  exact List.getElem_mem h
/-- the law's walk, whatever comes in -/
theorem law_walk (A0 : Option Addr) (c0 : Nat) (L : List S37) (click at_ : Int) (w : World) (hr0 : Kd.C k37 w A0 L.length L) (hc0 : L.length ≤ c0) :
    Calls Try.prog 3 #[.slice A0 L.length c0, .int .i64 click, .int .i64 at_] w fun e w' => e = .returned (.bool true) ∧ Below w.heap.size w w' := by
  have hl : (L.take 30).length ≤ 30 := by rw [List.length_take]; omega
  obtain ⟨r, hC, hval⟩ := check_some (L.take 30) hl
  have hE : chancerylaw3_effectsError.f 91 (L.take 30) = some r := by rw [check_same]; exact hC
  by_cases h0 : r = 0
  · subst h0
    by_cases hr : 0 ≤ click ∧ click ≤ 200 ∧ 0 ≤ at_ ∧ at_ ≤ 10000000
    · have hv : AllValid (L.take 30) := hval rfl
      obtain ⟨l, hll⟩ : ∃ l, L.take 30 = l := ⟨_, rfl⟩
      have hT := times_some _ hl hv
      have htl : (bTo (L.take 30) (L.take 30).length).1.length = (L.take 30).length := bTo_len _ _
      have hb := bInv _ hl hv _ (Nat.le_refl _)
      have htk : ∀ k : Nat, k < (L.take 30).length → TOk (rd_T45 (bTo (L.take 30) (L.take 30).length).1 (k : Int)) := by
        intro k hk
        obtain ⟨a1, a2, a3, a4, a5⟩ := hb.2.2 k hk
        have hv3 := (hv k hk).2.2.2.1
        exact ⟨by omega, a4, by omega⟩
      have hps : ∀ k : Nat, k < (L.take 30).length → 0 ≤ prog (rd_T45 (bTo (L.take 30) (L.take 30).length).1 (k : Int)) click at_ ∧ prog (rd_T45 (bTo (L.take 30) (L.take 30).length).1 (k : Int)) click at_ ≤ 1000 := fun k hk => prog_bd _ _ _ (htk k hk)
      have hs := sInv (L.take 30) (fun k => prog (rd_T45 (bTo (L.take 30) (L.take 30).length).1 (k : Int)) click at_) hl hv hps _ (Nat.le_refl _)
      have hmem : ∀ s, s ∈ (stTo (L.take 30) (fun k => prog (rd_T45 (bTo (L.take 30) (L.take 30).length).1 (k : Int)) click at_) (L.take 30).length).1 → ∃ j, j < (stTo (L.take 30) (fun k => prog (rd_T45 (bTo (L.take 30) (L.take 30).length).1 (k : Int)) click at_) (L.take 30).length).1.length ∧ get (stTo (L.take 30) (fun k => prog (rd_T45 (bTo (L.take 30) (L.take 30).length).1 (k : Int)) click at_) (L.take 30).length).1 j = s := by
        intro s hs'
        obtain ⟨j, hj, e⟩ := List.mem_iff_getElem.1 hs'
        exact ⟨j, hj, by rw [get_elem _ _ hj, e]⟩
      refine law_ok A0 c0 L click at_ w hr0 hc0 91 91 31 1 151 hC hE _ hT htl (fun k => prog (rd_T45 (bTo (L.take 30) (L.take 30).length).1 (k : Int)) click at_) (fun k hk => progress_some _ _ _ (htk k hk)) ?_ ?_ ?_ ?_ ?_ hr
      · intro s hs'
        obtain ⟨j, hj, e⟩ := hmem s hs'
        obtain ⟨i, hi, e2⟩ := hs.from_ j hj
        rw [← e, ← e2]
        exact (hv i hi).2.2.1
      · intro s hs'
        obtain ⟨j, hj, e⟩ := hmem s hs'
        obtain ⟨g1, g2, g3, g4⟩ := hs.agree j hj
        rw [of_some (L.take 30) _ (fun k => prog (rd_T45 (bTo (L.take 30) (L.take 30).length).1 (k : Int)) click at_) s.f0 click at_ hl htl htk (fun _ _ => rfl)]
        rw [e] at g2 g3 g4
        congr 1
        unfold fin
        rw [g2, g3, g4]
        split <;> rfl
      · intro s hs'
        obtain ⟨j, hj, e⟩ := hmem s hs'
        obtain ⟨i, hi, e2⟩ := hs.from_ j hj
        exact List.any_eq_true.2 ⟨_, rd_mem hi, by rw [e2, e]; simp⟩
      · rw [List.pairwise_iff_getElem]
        intro i j hi hj hij
        have := hs.ne i j hij hj
        rw [get_elem _ _ hi, get_elem _ _ hj] at this
        exact this
      · intro x hx
        obtain ⟨i, hi, e⟩ := mem_rd hx
        obtain ⟨j, hj, e2⟩ := hs.into_ i hi
        exact ⟨_, List.getElem_mem hj, by rw [← get_elem _ _ hj, e2, e]⟩
    · exact law_rng A0 c0 L click at_ w hr0 hc0 91 91 hC hE hr
  · exact law_err A0 c0 L click at_ w hr0 hc0 91 91 r hC hE h0
end Go.Proofs.Ytmjdeejccmcpnaa.Q
namespace Go.Proofs.Ytmjdeejccmcpnaa.timelineStates
open Go.ChangeShapes Go.WideShapes Go.ChangeAt Go.RowKit Go.Deep
open Go.Proofs.YtmjdeejccmcpnaaW.PrintWords Go.Proofs.YtmjdeejccmcpnaaW.PrintLast Go.Proofs.YtmjdeejccmcpnaaW.PrintMore
set_option linter.unusedVariables false
set_option linter.unusedSimpArgs false
section
variable {H : Type} {enc : TypeId × Value → H} {P : Program} {w : World} {base : Nat} {spare : Nat → Bool} {held : Bool}
theorem open_slice_fields {t e : TypeId} {fs : Array Field} {fuel : Nat} {cs : List Value} {x : DataW H × List MemPlace} (ht : P.underlying t = some (.slice e)) (he : P.underlying e = some (.struct fs))
    (hone : oneCellFields P fs = true) (hC : P.cellsOf e = fs.size) (h : DataW.trod enc P w base spare held fuel t cs = some x) :
    (cs = [.slice none 0 0] ∧ x = (.nil, [])) ∨
    ∃ (a : Addr) (len cap m : Nat), cs = [.slice (some a) len cap] ∧ len ≤ cap ∧ cap ≤ maxLen ∧ len ≤ m ∧
      ∀ i, i < m → ∃ (ys : List (DataW H × List MemPlace)) (n : Nat), 
        ∀ (j : Nat) (f : Field), fs[j]? = some f → ∃ (v : Value) (y : DataW H × List MemPlace), w.cell? (a.add (i * fs.size + j)) = some v ∧ ys[j]? = some y ∧ DataW.trod enc P w base spare held n f.type [v] = some y := by
  rcases open_slice ht h with h0 | ⟨a, len, cap, m, n, D, Pl, hcs, hb, hl, hm, hmm, hx, hi⟩
  · exact .inl h0
  · refine .inr ⟨a, len, cap, m, hcs, hl, hm, by rw [hmm]; split <;> omega, fun i him => ?_⟩
    obtain ⟨cs', hc, ht'⟩ := hi i him
    rw [hC] at hc
    obtain ⟨ys, n', hn', hy, hlen, hyl, hf⟩ := DataW.trod_struct he ht'
    obtain ⟨_, hcl, hat⟩ := World.cells?_some hc
    refine ⟨ys, n', fun j f hj => ?_⟩
    obtain ⟨ho, hk⟩ := hone_of hone j f hj
    have hjl : j < fs.size := (Array.getElem?_eq_some_iff.1 hj).1
    have hcell := hat j hjl
    have hv : cs'[j]? = some (cs'[j]'(by omega)) := List.getElem?_eq_getElem (by omega)
    have h1 := hf j f hj
    rw [ho, hk] at h1
    have hone' : (cs'.drop j).take 1 = [cs'[j]'(by omega)] := by
      rw [List.drop_eq_getElem_cons (by omega)]
      rfl
    rw [hone'] at h1
    have hys : ys[j]? = some (ys[j]'(by omega)) := List.getElem?_eq_getElem (by omega)
    refine ⟨_, _, ?_, hys, h1.trans hys⟩
    rw [← Go.Deep.add_add, hcell, hv]
end
theorem choose_list {α : Type} {Q : Nat → α → Prop} (n : Nat) (h : ∀ i, i < n → ∃ x, Q i x) : ∃ l : List α, l.length = n ∧ ∀ i (hi : i < l.length), Q i l[i] := by
  induction n with
  | zero => exact ⟨[], rfl, fun i hi => by simp at hi⟩
  | succ n ih =>
    obtain ⟨l, hl, hq⟩ := ih (fun i hi => h i (by omega))
    obtain ⟨x, hx⟩ := h n (by omega)
    refine ⟨l ++ [x], by simp [hl], fun i hi => ?_⟩
    by_cases e : i < l.length
    · rw [List.getElem_append_left e]; exact hq i e
    · have : i = l.length := by simp at hi; omega
      subst this
      simp
      rw [hl]
      exact hx
/-- the effects, as they come in -/
theorem open_effects {H : Type} {enc : TypeId × Value → H} {w : World} {base : Nat} {spare : Nat → Bool} {held : Bool} {fuel : Nat} {a0 : Option Addr} {len cap : Nat} {x : DataW H × List MemPlace}
    (h : DataW.trod enc Try.prog w base spare held fuel 22 [.slice a0 len cap] = some x) : ∃ L : List Q.S37, L.length = len ∧ len ≤ cap ∧ Kd.C Q.k37 w a0 len L := by
  rcases open_slice_fields (fs := _) Try.underlying22 Try.underlying37 (by kernel_rfl) (by kernel_rfl) h with ⟨hcs, _⟩ | ⟨a, l, c, m, hcs, hl, hm, hlm, hf⟩
  · simp at hcs
    obtain ⟨rfl, rfl, rfl⟩ := hcs
    exact ⟨[], rfl, by omega, rfl, by omega, fun h => by omega⟩
  · simp at hcs
    obtain ⟨rfl, rfl, rfl⟩ := hcs
    obtain ⟨L, hL, hq⟩ := choose_list (Q := fun i (x : Q.S37) => ∀ (j : Nat) (u : Value), ([.int .i64 x.f0, .int .i64 x.f1, .int .i64 x.f2, .int .i64 x.f3, .int .i64 x.f4, .int .i64 x.f5, .int .i64 x.f6] : List Value)[j]? = some u → w.cell? (a.add (i * 7 + j)) = some u) len (by
      intro i hi
      obtain ⟨ys, n, g⟩ := hf i (by omega)
      obtain ⟨v0, y0, c0, _, t0⟩ := g 0 _ rfl
      obtain ⟨v1, y1, c1, _, t1⟩ := g 1 _ rfl
      obtain ⟨v2, y2, c2, _, t2⟩ := g 2 _ rfl
      obtain ⟨v3, y3, c3, _, t3⟩ := g 3 _ rfl
      obtain ⟨v4, y4, c4, _, t4⟩ := g 4 _ rfl
      obtain ⟨v5, y5, c5, _, t5⟩ := g 5 _ rfl
      obtain ⟨v6, y6, c6, _, t6⟩ := g 6 _ rfl
      obtain ⟨a0, e0, _, _⟩ := DataW.trod_int Try.underlying3 t0
      obtain ⟨a1, e1, _, _⟩ := DataW.trod_int Try.underlying3 t1
      obtain ⟨a2, e2, _, _⟩ := DataW.trod_int Try.underlying3 t2
      obtain ⟨a3, e3, _, _⟩ := DataW.trod_int Try.underlying3 t3
      obtain ⟨a4, e4, _, _⟩ := DataW.trod_int Try.underlying3 t4
      obtain ⟨a5, e5, _, _⟩ := DataW.trod_int Try.underlying3 t5
      obtain ⟨a6, e6, _, _⟩ := DataW.trod_int Try.underlying3 t6
      simp only [List.cons.injEq, and_true] at e0 e1 e2 e3 e4 e5 e6
      subst e0 e1 e2 e3 e4 e5 e6
      refine ⟨⟨a0, a1, a2, a3, a4, a5, a6⟩, fun j u hu => ?_⟩
      match j, hu with
      | 0, hu => simp at hu; subst hu; exact c0
      | 1, hu => simp at hu; subst hu; exact c1
      | 2, hu => simp at hu; subst hu; exact c2
      | 3, hu => simp at hu; subst hu; exact c3
      | 4, hu => simp at hu; subst hu; exact c4
      | 5, hu => simp at hu; subst hu; exact c5
      | 6, hu => simp at hu; subst hu; exact c6
      | j + 7, hu => simp at hu)
    refine ⟨L, hL, hl, hL, by simp only [maxLen] at hm; omega, fun _ => ⟨a, rfl, fun j p hj => ?_⟩⟩
    obtain ⟨hjl, rfl⟩ := List.getElem?_eq_some_iff.1 hj
    exact ⟨_, rfl, Q.k37_mk _ _, fun i u hu => hq j hjl i u hu⟩
theorem own : ownKnob Try.prog.godebug = none := by kernel_rfl
theorem laidOut : laidOutB Try.prog = true := by kernel_rfl
set_option maxRecDepth 100000 in
theorem lifted (os : Os) (started : os.Started) (H : Type) (enc : TypeId × Value → H) :
    ReturnsInHanded {} Try.checked os 3 .any (Rows.timelineStatesSpec.pre6 enc Try.prog Try.f3 Rows.timelineStatesRow.domain false) (Rows.timelineStatesSpec.post enc Try.prog Try.f3 false true false false) := by
  refine returnsInHanded_of_change_sized (C := Try.checked) own started (by kernel_rfl) Try.func3
    (ChangeSpec.witness6 (enc := enc) (C := Try.checked) false ⟨#[], #[.slice none 0 0, .int .i64 0, .int .i64 0], []⟩ 8 (by kernel_rfl) (by kernel_rfl) (by kernel_rfl) (by kernel_rfl)) ?_
  intro W base args ds gs before hval0 hW hcnd hsz0 _
  have hval : ∀ (j : Nat) t v, Try.f3.params[j]? = some t → args[j]? = some v → Value.okWide Try.prog W .any base t v := hval0
  have hW' := hW
  obtain ⟨p, q, hA0, hV, rfl, hfz, hnd⟩ := hW
  have hA : DataW.TrodAll enc Try.prog W 0 (fun _ => true) true Try.f3.params.toList args.toList ds p := hA0
  rw [Try.params3] at hA hval
  obtain ⟨v0, vs0, d0, ds0, p0, q0, hargs, rfl, rfl, h0, r0⟩ := trodAll_cons hA
  obtain ⟨v1, vs1, d1, ds1, p1, q1, rfl, rfl, rfl, h1, r1⟩ := trodAll_cons r0
  obtain ⟨v2, vs2, d2, ds2, p2, q2, rfl, rfl, rfl, h2, r2⟩ := trodAll_cons r1
  obtain ⟨rfl, rfl, rfl⟩ := trodAll_nil r2
  obtain rfl : args = #[v0, v1, v2] := by cases args; simp_all
  obtain ⟨rfl, rfl⟩ := trodVars_none hV
  obtain ⟨a0, len0, cap0, rfl⟩ := okWide_slice Try.underlying22 (hval 0 22 v0 rfl rfl)
  have k0 := h0
  have lt0 : ∀ x ∈ p0, x.block < W.heap.size := by obtain ⟨m, hm⟩ := k0; exact DataW.trod_lt m _ _ _ hm
  obtain ⟨L, hL, hlc, hC⟩ : ∃ L : List Q.S37, L.length = len0 ∧ len0 ≤ cap0 ∧ Kd.C Q.k37 W a0 len0 L := by
    obtain ⟨fuel, hf⟩ := h0
    exact open_effects (by simpa [Value.cells] using hf)
  obtain ⟨a1, rfl, rfl, rfl, w1⟩ := open_int Try.underlying3 (hval 1 3 v1 rfl rfl) h1
  obtain ⟨a2, rfl, rfl, rfl, w2⟩ := open_int Try.underlying3 (hval 2 3 v2 rfl rfl) h2
  clear hA0 hval0 hsz0
  subst hL
  refine (Q.law_walk a0 cap0 L a1 a2 W hC hlc).mono fun e W' ⟨he, bel⟩ => ?_
  subst he
  exact ⟨_, rfl, _, _, _, [], _, [], hW', trodAll_mk1 (shut_bool Try.underlying4 _), (trodAll_cons_mk (Below.trod laidOut (by kernel_rfl) (of_decide_eq_true (by kernel_rfl)) k0 bel lt0) (trodAll_cons_mk (shut_int Try.underlying3 w1) (trodAll_cons_mk (shut_int Try.underlying3 w2) trodAll_mk0))), rfl, bel.frame _, fun h => by cases h⟩
theorem over : Rows.timelineStatesRow.holds Try.pinned (OpenSpec.ofChange Rows.timelineStatesSpec) :=
  OpenClaim.holds_of_wide 3 Try.f3 rfl rfl rfl rfl rfl rfl rfl ⟨rfl, rfl, rfl, rfl, rfl⟩ rfl rfl rfl rfl rfl (by kernel_rfl) Try.func3 (by kernel_rfl)
    (of_decide_eq_true (by kernel_rfl)) (by unfold Func.isWrapper; first | (rw [if_pos (by decide +kernel)]; kernel_rfl) | (rw [if_neg (by decide +kernel)]; exact ⟨rfl, rfl⟩))
    (fun os started H enc _ => lifted os started H enc)
theorem proved : Rows.TimelineStatesSaid := over
end Go.Proofs.Ytmjdeejccmcpnaa.timelineStates
namespace Go.Proofs.Ytmjdeejccmcpnaa
/-- The row, under a short name, for the claim. -/
theorem timelineStates_holds : Rows.TimelineStatesSaid := timelineStates.proved
#print axioms timelineStates_holds
end Go.Proofs.Ytmjdeejccmcpnaa
