/- MarkedImportMatches, where what it reads is of bulk at most 1048576: the law returns true and its argument reads as it did; the listed variables are tied to the program's text. -/
import Derived.Test.YtmjdeejccmcpnabDoorR0
import Derived.Test.YtmjdeejccmcpnabDoorCards
import Derived.Test.YtmjdeejccmcpnabDoorTie
import Derived.WalkKit
import Derived.ProofKit
import Derived.OpenShut
import Derived.Deep.DeepHandedRow
import Derived.Lib.LaidTab
import Derived.PinnedBridge
namespace Go.Proofs.YtmjdeejccmcpnabDoor.fnMarked
open Go.ChangeShapes Go.WideShapes Go.ChangeAt Go.RowKit
open Go.ChangeMaps (open_string shut_string)
set_option linter.unusedVariables false
theorem own : ownKnob Tryd.prog.godebug = none := by kernel_rfl
theorem gTog : Tryd.prog.globalNamed "chancery/marked.toggles" = some 0 := by kernel_rfl
theorem gTogType : (Tryd.prog.globals[0]?).map (·.type) = some 84 := by kernel_rfl
theorem cells83 : Tryd.prog.cellsOf 83 = 2 := by kernel_rfl
theorem cells9 : Tryd.prog.cellsOf 9 = 1 := by kernel_rfl
theorem accept_eq : Rows.laid_unicode_utf8_acceptRanges (H := Unit) = Lib.acceptData := by kernel_rfl
theorem met {W : World} (h : laidMetH Tryd.prog Rows.markedImportMatchesUptoRow.laid W) : laidMet Tryd.prog Rows.markedImportMatchesUptoRow.laid W := h
theorem utf8 {W : World} (h : laidMet Tryd.prog Rows.markedImportMatchesUptoRow.laid W) : Lib.Utf8Tabs 2 3 W := by
  have h3 : Lib.VarReads Tryd.prog W "unicode/utf8.first" Lib.firstData := by
    rw [← Pinned.utf8First_eq]
    exact Lib.laidMet.reads h (.tail _ (.tail _ (.head _)))
  have h4 : Lib.VarReads Tryd.prog W "unicode/utf8.acceptRanges" Lib.acceptData := by
    rw [← accept_eq]
    exact Lib.laidMet.reads h (.head _)
  exact utf8Tabs_of_reads (ρ := Tryd.lays260_ren) Tryd.lays260 ⟨by kernel_rfl, by kernel_rfl, by kernel_rfl, by kernel_rfl, by kernel_rfl, by kernel_rfl, by kernel_rfl⟩ h3 h4
theorem str2 {W : World} {cs : List Value} {fuel : Nat} {a b : List UInt8} {q : List MemPlace} (h : DataW.trod (fun _ => ()) Tryd.prog W 0 (fun _ => true) false fuel 83 cs = some (.agg [.lit (.string a), .lit (.string b)], q)) :
    cs[0]? = some (.string ⟨a.toArray⟩) ∧ cs[1]? = some (.string ⟨b.toArray⟩) := by
  obtain ⟨y0, y1, n, hx, _, h0, h1⟩ := trod_struct2 Tryd.underlying83 h
  obtain ⟨s0, e0, rfl, _⟩ := DataW.trod_string Tryd.underlying9 h0
  obtain ⟨s1, e1, rfl, _⟩ := DataW.trod_string Tryd.underlying9 h1
  simp only [Prod.mk.injEq, DataW.agg.injEq, List.cons.injEq, DataW.lit.injEq, Lit.string.injEq, and_true] at hx
  obtain ⟨⟨ha, hb⟩, _⟩ := hx
  have f0 := congrArg (·[0]?) e0
  have f1 := congrArg (·[0]?) e1
  rw [cells9] at f0 f1
  simp at f0 f1
  constructor
  · rw [f0, ha]
  · rw [f1, hb]
theorem tgl {W : World} (h : laidMet Tryd.prog Rows.markedImportMatchesUptoRow.laid W) : Q.Tgl W := by
  obtain ⟨g, t, cs, fuel, p, hg, hty, hvar, hd⟩ := Lib.laidMet.reads h (n := "chancery/marked.toggles") (.tail _ (.head _))
  obtain rfl := Option.some.inj (gTog.symm.trans hg)
  obtain rfl := Option.some.inj (gTogType.symm.trans hty)
  have H : ∀ (i : Nat) (hi : i < 4) (a b : List UInt8), ([DataW.agg [.lit (.string [42, 42]), .lit (.string [98, 111, 108, 100])], .agg [.lit (.string [42]), .lit (.string [105, 116, 97, 108, 105, 99])], .agg [.lit (.string [126, 126]), .lit (.string [115, 116, 114, 105, 107, 101])], .agg [.lit (.string [96]), .lit (.string [102, 105, 120, 101, 100])]] : List (DataW Unit))[i]? = some (.agg [.lit (.string a), .lit (.string b)]) →
      W.cell? ⟨0, 2 * i, none⟩ = some (.string ⟨a.toArray⟩) ∧ W.cell? ⟨0, 2 * i + 1, none⟩ = some (.string ⟨b.toArray⟩) := by
    intro i hi a b hab
    obtain ⟨fuel', d, q, hdi, he⟩ := Lib.array_elem Tryd.underlying84 hd i hi
    rw [hab] at hdi
    cases hdi
    rw [cells83] at he
    obtain ⟨h0, h1⟩ := str2 he
    rw [World.var?_cell gTog hvar (2 * i), World.var?_cell gTog hvar (2 * i + 1), ← Array.getElem?_toList, ← Array.getElem?_toList]
    simp only [List.getElem?_take, List.getElem?_drop] at h0 h1
    rw [show 2 * i = i * 2 + 0 by omega, show i * 2 + 0 + 1 = i * 2 + 1 by omega]
    exact ⟨by simpa using h0, by simpa using h1⟩
  exact ⟨(H 0 (by decide) _ _ rfl).1, (H 0 (by decide) _ _ rfl).2, (H 1 (by decide) _ _ rfl).1, (H 1 (by decide) _ _ rfl).2, (H 2 (by decide) _ _ rfl).1, (H 2 (by decide) _ _ rfl).2, (H 3 (by decide) _ _ rfl).1, (H 3 (by decide) _ _ rfl).2⟩
theorem short {H : Type} {s : ByteArray} (hk : Rows.uptoSmall H [.lit (.string s.data.toList)] = true) : s.size ≤ 1048576 := by
  have h : Rows.uptoBulkAll [DataW.lit (H := H) (.string s.data.toList)] ≤ 1048576 := of_decide_eq_true hk
  simp only [Rows.uptoBulkAll, Rows.uptoBulk] at h
  have e : s.data.toList.length = s.size := by rw [Array.length_toList]; rfl
  omega
theorem laidOut : laidOutB Tryd.prog = true := by kernel_rfl
set_option maxRecDepth 1000000 in
theorem contract (H : Type) (enc : TypeId × Value → H) (W : World) (base : Nat) (args : Array Value) (ds gs : List (DataW H)) (before : List MemPlace)
    (hval : ∀ (j : Nat) t v, Tryd.f3.params[j]? = some t → args[j]? = some v → Value.okWide Tryd.prog W .any base t v)
    (hW : DataW.Whole enc Tryd.prog Tryd.f3.params.toList Rows.markedImportMatchesSpec.vars false W args.toList ds gs before) (hk : Rows.uptoSmall H (ds ++ gs) = true) (hL : laidMetH Tryd.prog Rows.markedImportMatchesUptoRow.laid W) (hsh : W.ShapedOpen Tryd.prog) :
    Calls Tryd.prog 3 args W fun e W' => ∃ v, e = .returned v ∧ Rows.markedImportMatchesSpec.post enc Tryd.prog Tryd.f3 false true false false W args v W' := by
  have hW' := hW
  obtain ⟨p, q, hA0, hV, rfl, hfz, hnd⟩ := hW
  have hA : DataW.TrodAll enc Tryd.prog W 0 (fun _ => true) true Tryd.f3.params.toList args.toList ds p := hA0
  rw [Tryd.params3] at hA hval
  obtain ⟨v0, vs0, d0, ds0, p0, q0, hargs, rfl, rfl, h0, r0⟩ := trodAll_cons hA
  obtain ⟨rfl, rfl, rfl⟩ := trodAll_nil r0
  obtain rfl : args = #[v0] := by cases args; simp_all
  obtain ⟨rfl, rfl⟩ := trodVars_none hV
  obtain ⟨s, rfl, rfl, rfl, hmax⟩ := open_string Tryd.underlying9 (hval 0 9 v0 rfl rfl) h0
  clear hA0
  simp only [List.append_nil] at hW' hk
  obtain ⟨mx, hmx⟩ := cell_of_shapedOpen_int (P := Tryd.prog) (g := 1) (t := 3) (zero := #[.int .i64 0]) hsh (of_decide_eq_true (by kernel_rfl)) (by kernel_rfl) rfl (by kernel_rfl) (by kernel_rfl) Tryd.underlying3
  have hu := utf8 (met hL)
  have h4 : 3 < W.heap.size := World.block_lt_of_cell? W _ (hu.2 0 (by decide)).1
  refine (Q.law_walk s mx W (tgl (met hL)) hu hmx h4 (short hk)).mono fun e W' ⟨he, bel⟩ => ?_
  subst he
  exact ⟨_, rfl, _, _, _, [], _, [], hW', trodAll_mk1 (shut_bool Tryd.underlying4 _), (trodAll_cons_mk (shut_string Tryd.underlying9 hmax) trodAll_mk0), rfl, bel.frame _, fun h => by cases h⟩
/-- A WORLD FOR THE WITNESS: the settled one, the three variables holding what their initialisers lay. -/
noncomputable def togCells : Array Value := #[.string ⟨#[42, 42]⟩, .string ⟨#[98, 111, 108, 100]⟩, .string ⟨#[42]⟩, .string ⟨#[105, 116, 97, 108, 105, 99]⟩, .string ⟨#[126, 126]⟩, .string ⟨#[115, 116, 114, 105, 107, 101]⟩, .string ⟨#[96]⟩, .string ⟨#[102, 105, 120, 101, 100]⟩]
noncomputable def firstCells : Array Value := ((List.range 256).map fun c => Value.int .u8 (Lib.firstT c : Int)).toArray
noncomputable def accCells : Array Value := ((List.range 16).flatMap fun i => [Value.int .u8 (Lib.accLo i : Int), Value.int .u8 (Lib.accHi i : Int)]).toArray
def putCells (cs : Array Value) : Obj → Obj
  | .cells _ t frozen => .cells cs t frozen
  | o => o
noncomputable def laidWorld (os : Os) : World :=
  { World.holding Tryd.prog os ⟨#[], #[], []⟩ with heap := (((World.holding Tryd.prog os ⟨#[], #[], []⟩).heap.modify 0 (putCells togCells)).modify 2 (putCells firstCells)).modify 3 (putCells accCells) }
theorem laid_met (os : Os) : laidMet Tryd.prog Rows.markedImportMatchesUptoRow.laid ((laidWorld os).forCall (fun _ _ => 0) ⟨#[], #[.string ⟨#[]⟩], []⟩).memory :=
  laidMet_of_run' 8 (by kernel_rfl) (by kernel_rfl)
theorem reads (os : Os) {H : Type} (enc : TypeId × Value → H) : ∃ places, DataW.whole enc Tryd.prog ((laidWorld os).forCall (fun _ _ => 0) ⟨#[], #[.string ⟨#[]⟩], []⟩).memory Tryd.f3.params.toList Rows.markedImportMatchesSpec.vars false #[Value.string ⟨#[]⟩].toList 8 = some ([.lit (.string [])], [], places) :=
  ⟨[], by kernel_rfl⟩
set_option maxRecDepth 100000 in
theorem liftedUpto (os : Os) (started : os.Started) (H : Type) (enc : TypeId × Value → H) (F : Stop.Interp) :
    ReturnsInHanded {} Tryd.checked os 3 .any ((Rows.OpenSpec.upto Rows.markedImportMatchesSpec).preRow enc Tryd.prog Tryd.f3 Rows.markedImportMatchesUptoRow.domain false Rows.markedImportMatchesUptoRow.laid) (((Rows.OpenSpec.upto Rows.markedImportMatchesSpec).at F).post enc Tryd.prog Tryd.f3 false true false false) := by
  obtain ⟨places, hx⟩ := reads os enc
  refine returnsInHanded_of_row (C := Tryd.checked) (s := Rows.OpenSpec.upto Rows.markedImportMatchesSpec) own started (by kernel_rfl) Tryd.func3
    (witness_row_at (enc := enc) (C := Tryd.checked) false (laidWorld os) #[.string ⟨#[]⟩] rfl (by kernel_rfl) (by kernel_rfl) (by kernel_rfl)
      (OpenSpec.preRow_of_cond 8 hx (by kernel_rfl) (fun k hk => by cases hk; kernel_rfl) (by kernel_rfl) (laid_met os))) ?_
  intro W base args ds gs before hval hW _ hcond _ hL hsh _
  exact contract H enc W base args ds gs before hval hW (hcond _ rfl) hL hsh
theorem saidUpto : Rows.MarkedImportMatchesUptoSaid :=
  OpenClaim.holds_of_cond 3 Tryd.f3 rfl rfl rfl rfl rfl rfl rfl ⟨rfl, rfl, rfl, rfl, rfl⟩ rfl rfl rfl rfl rfl (by kernel_rfl) Tryd.func3 (by kernel_rfl)
    (of_decide_eq_true (by kernel_rfl)) (by unfold Func.isWrapper; first | (rw [if_pos (by decide +kernel)]; kernel_rfl) | (rw [if_neg (by decide +kernel)]; exact ⟨rfl, rfl⟩))
    (fun os started H enc _ F => by rw [OpenClaim.pre_eq_preRow]; exact liftedUpto os started H enc F)
theorem plain (f : FuncId) (fn : Func) (hf : Tryd.pinned.checked.prog.funcNamed "chancery/chancerylaw2.MarkedImportMatches" = some f) (hfn : Tryd.pinned.checked.prog.funcs[f]? = some fn) :
    false = Tryd.pinned.checked.prog.looks [] ∧ ∀ (j : Nat) t, fn.params[j]? = some t → Tryd.pinned.checked.prog.wantsStandIn t = false := by
  obtain rfl : f = 3 := Option.some.inj ((show Tryd.prog.funcNamed "chancery/chancerylaw2.MarkedImportMatches" = some 3 by kernel_rfl).symm.trans hf) |>.symm
  obtain rfl : fn = Tryd.f3 := (Option.some.inj (Tryd.func3.symm.trans hfn)).symm
  refine ⟨by kernel_rfl, fun j t ht => ?_⟩
  rw [Tryd.params3] at ht
  obtain rfl : t = 9 := by simpa using Array.mem_of_getElem? ht
  exact (show Tryd.prog.wantsStandIn 9 = false by kernel_rfl)
theorem cardUpto : Rows.MarkedImportMatchesUptoCardSaid :=
  Claim7.holds_tied_plain_at .later [] _ _ _ _ saidUpto (fun _ h => by cases h) (by kernel_rfl) (fun _ h => by cases h) markedImportMatchesUpto_row_tie rfl ⟨rfl, rfl⟩ (by kernel_rfl) rfl plain (by kernel_rfl)
end Go.Proofs.YtmjdeejccmcpnabDoor.fnMarked
namespace Go.Proofs.YtmjdeejccmcpnabDoor
/-- The card, under a short name, for the claim. -/
theorem markedImportMatches_holds : Rows.MarkedImportMatchesUptoCardSaid := fnMarked.cardUpto
#print axioms markedImportMatches_holds
end Go.Proofs.YtmjdeejccmcpnabDoor
