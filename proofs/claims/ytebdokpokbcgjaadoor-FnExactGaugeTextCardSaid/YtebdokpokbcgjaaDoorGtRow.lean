/- FnExactGaugeText (the tied card): for every gauge, the law answers true: the program and the reference return the same text; the listed tables as the program lays them. -/
import Derived.Test.YtebdokpokbcgjaaDoorRow
import Derived.Test.YtebdokpokbcgjaaDoorGtLaw
import Derived.Test.YtebdokpokbcgjaaDoorCards
import Derived.Test.YtebdokpokbcgjaaDoorTie
import Derived.Deep.DeepHandedRow
import Derived.Lib.LaidTab
import Derived.Stop.LaidErr
namespace Go.Proofs.YtebdokpokbcgjaaDoor
set_option linter.unusedSimpArgs false
set_option linter.unusedVariables false
open Go.ChangeShapes Go.WideShapes Go.ChangeAt Go.RowKit

/-- the cells of a listed table -/
def tabCells : DataW Unit → Array Value
  | .agg ds => (ds.map fun | .lit (.int k z) => Value.int k z | _ => undef).toArray
  | _ => #[]
/-- a world for the witness: the settled one, the listed tables as laid -/
noncomputable def laidWorld (os : Os) : World :=
  let w := World.holding Tryd.prog os ⟨#[], #[], []⟩
  let put (g : Nat) (d : DataW Unit) (h : Array Obj) : Array Obj := h.modify g fun
    | .cells _ t frozen => .cells (tabCells d) t frozen
    | o => o
  { w with heap := put 1 Rows.laid_internal_strconv_uint64pow10 (put 6 Rows.laid_math_bits_deBruijn32tab (put 7 Rows.laid_math_bits_deBruijn64tab w.heap)) }
theorem gPow : Tryd.prog.globalNamed "internal/strconv.uint64pow10" = some 1 := by kernel_rfl
theorem gPowType : (Tryd.prog.globals[1]?).map (·.type) = some 150 := by kernel_rfl
theorem cellsPow : Tryd.prog.cellsOf 150 = 20 := by kernel_rfl
theorem cellsU64 : Tryd.prog.cellsOf 129 = 1 := by kernel_rfl
/-- what the list gives -/
theorem tabW {W : World} {r : List (String × DataW Unit)} (h : laidMet Tryd.prog (("internal/strconv.uint64pow10", Rows.laid_internal_strconv_uint64pow10) :: r) W) : TabW W :=
  Lib.tabIs_of_head (rest := r) gPow gPowType Tryd.underlying150 Tryd.underlying129 cellsU64 cellsPow h

set_option maxRecDepth 100000 in
theorem FnExactGaugeText_calls (H : Type) (enc : TypeId × Value → H) (W : World) (base : Nat) (args : Array Value) (ds gs : List (DataW H)) (before : List MemPlace)
    (hval : ∀ (j : Nat) t v, Tryd.f3.params[j]? = some t → args[j]? = some v → Value.okWide Tryd.prog W .any base t v)
    (hW : DataW.Whole enc Tryd.prog Tryd.f3.params.toList Rows.fnExactGaugeTextSpec.vars false W args.toList ds gs before) (hL : laidMetH Tryd.prog Rows.fnExactGaugeTextRow.laid W) (hS : W.ShapedOpen Tryd.prog) :
    Calls Tryd.prog 3 args W fun e W' => ∃ v, e = .returned v ∧ Rows.fnExactGaugeTextSpec.post enc Tryd.prog Tryd.f3 false true false false W args v W' := by
  have hW' := hW
  obtain ⟨p, q, hA0, hV, rfl, hfz, hnd⟩ := hW
  have hA : DataW.TrodAll enc Tryd.prog W 0 (fun _ => true) true Tryd.f3.params.toList args.toList ds p := hA0
  rw [Tryd.params3] at hA hval
  obtain ⟨v0, vs0, d0, ds0, p0, q0, hargs, rfl, rfl, h0, r0⟩ := trodAll_cons hA
  obtain ⟨rfl, rfl, rfl⟩ := trodAll_nil r0
  obtain rfl : args = #[v0] := by cases args; simp_all
  obtain ⟨A1, c1, A2, c2, ds, ss, rfl, g1, g2⟩ := open_gauge (hval 0 _ v0 rfl rfl) h0
  have ht : TabW W := tabW (laidMet.tail (laidMet.tail hL))
  refine (lawGaugeText_any A1 A2 c1 c2 ds ss W ht ⟨g1, g2⟩).mono fun e W' ⟨he, bel⟩ => ?_
  subst he
  exact ⟨_, rfl, law_post hW' rfl (by kernel_rfl) rfl ⟨rfl, rfl, rfl⟩ bel⟩

theorem FnExactGaugeText_met (os : Os) : laidMet Tryd.prog Rows.fnExactGaugeTextRow.laid ((laidWorld os).forCall (fun _ _ => 0) ⟨#[], #[.agg #[.slice none 0 0, .slice none 0 0]], []⟩).memory :=
  laidMet_of_run' 8 (by kernel_rfl) (by kernel_rfl)
theorem FnExactGaugeText_reads (os : Os) {H : Type} (enc : TypeId × Value → H) : ∃ places, DataW.whole enc Tryd.prog ((laidWorld os).forCall (fun _ _ => 0) ⟨#[], #[.agg #[.slice none 0 0, .slice none 0 0]], []⟩).memory Tryd.f3.params.toList Rows.fnExactGaugeTextSpec.vars false #[.agg #[.slice none 0 0, .slice none 0 0]].toList 8 = some ([.agg [.nil, .nil]], [], places) :=
  ⟨[], by kernel_rfl⟩
set_option maxRecDepth 100000 in
theorem FnExactGaugeText_lifted (os : Os) (started : os.Started) (H : Type) (enc : TypeId × Value → H) (F : Stop.Interp) :
    ReturnsInHanded {} Tryd.checked os 3 .any ((OpenSpec.ofChange Rows.fnExactGaugeTextSpec).preRow enc Tryd.prog Tryd.f3 Rows.fnExactGaugeTextRow.domain false Rows.fnExactGaugeTextRow.laid) (((OpenSpec.ofChange Rows.fnExactGaugeTextSpec).at F).post enc Tryd.prog Tryd.f3 false true false false) := by
  obtain ⟨places, hx⟩ := FnExactGaugeText_reads os enc
  refine returnsInHanded_of_row (C := Tryd.checked) (s := OpenSpec.ofChange Rows.fnExactGaugeTextSpec) own started (by kernel_rfl) Tryd.func3
    (witness_row_at (enc := enc) (C := Tryd.checked) false (laidWorld os) #[.agg #[.slice none 0 0, .slice none 0 0]] rfl (by kernel_rfl) (by kernel_rfl) (by kernel_rfl)
      (OpenSpec.preRow_of_cond 8 hx (by kernel_rfl) (fun k hk => by cases hk) (by kernel_rfl) (FnExactGaugeText_met os))) ?_
  intro W base args ds gs before hval hW _ _ _ hL hS _
  exact FnExactGaugeText_calls H enc W base args ds gs before hval hW hL hS

theorem FnExactGaugeText_said : Rows.FnExactGaugeTextSaid :=
  OpenClaim.holds_of_cond 3 Tryd.f3 rfl rfl rfl rfl rfl rfl rfl ⟨rfl, rfl, rfl, rfl, rfl⟩ rfl rfl rfl rfl rfl (by kernel_rfl) Tryd.func3 (by kernel_rfl)
    (of_decide_eq_true (by kernel_rfl)) (by unfold Func.isWrapper; first | (rw [if_pos (by decide +kernel)]; kernel_rfl) | (rw [if_neg (by decide +kernel)]; exact ⟨rfl, rfl⟩))
    (fun os started H enc _ F => by rw [OpenClaim.pre_eq_preRow]; exact FnExactGaugeText_lifted os started H enc F)

theorem FnExactGaugeText_plain (f : FuncId) (fn : Func) (hf : Tryd.pinned.checked.prog.funcNamed "loop.example/g00915/laws.FnExactGaugeText" = some f) (hfn : Tryd.pinned.checked.prog.funcs[f]? = some fn) :
    Rows.fnExactGaugeTextCard.stood.looks = Tryd.pinned.checked.prog.looks [] ∧ ∀ (j : Nat) t, fn.params[j]? = some t → Tryd.pinned.checked.prog.wantsStandIn t = false := by
  obtain rfl : f = 3 := Option.some.inj ((show Tryd.prog.funcNamed "loop.example/g00915/laws.FnExactGaugeText" = some 3 by kernel_rfl).symm.trans hf) |>.symm
  obtain rfl : fn = Tryd.f3 := (Option.some.inj (Tryd.func3.symm.trans hfn)).symm
  refine ⟨by kernel_rfl, fun j t ht => ?_⟩
  rw [Tryd.params3] at ht
  have hm := Array.mem_of_getElem? ht
  have ha : (Tryd.f3.params.all fun t => Tryd.prog.wantsStandIn t == false) = true := by kernel_rfl
  rw [Tryd.params3] at ha
  rw [Array.all_eq_true_iff_forall_mem] at ha
  exact beq_iff_eq.1 (ha t hm)

/-- the statement -/
theorem FnExactGaugeText_holds : Rows.FnExactGaugeTextCardSaid :=
  Claim7.holds_tied_plain_at .later [] _ _ _ _ FnExactGaugeText_said (fun _ h => by cases h) (by kernel_rfl) (fun _ h => by cases h) fnExactGaugeText_row_tie rfl ⟨rfl, rfl⟩ (by kernel_rfl) rfl FnExactGaugeText_plain (by kernel_rfl)
#print axioms FnExactGaugeText_holds
end Go.Proofs.YtebdokpokbcgjaaDoor
