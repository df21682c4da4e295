/- FnExactSoundingsText (the tied card): for every list of soundings, the law answers true: the program and the reference return the same text; the listed tables as the program lays them. -/
import Derived.Test.YtebdokpokbcgjaaDoorRow
import Derived.Test.YtebdokpokbcgjaaDoorStLaw
import Derived.Test.YtebdokpokbcgjaaDoorCards
import Derived.Test.YtebdokpokbcgjaaDoorTie
import Derived.Deep.DeepHandedRow
import Derived.Lib.LaidTab
import Derived.Stop.LaidErr
namespace Go.Proofs.YtebdokpokbcgjaaDoor
set_option linter.unusedSimpArgs false
set_option linter.unusedVariables false
open Go.ChangeShapes Go.WideShapes Go.ChangeAt Go.RowKit

/-- the cells of a listed table -/
def tabCells : DataW Unit → Array Value
  | .agg ds => (ds.map fun | .lit (.int k z) => Value.int k z | _ => undef).toArray
  | _ => #[]
/-- a world for the witness: the settled one, the listed tables as laid -/
noncomputable def laidWorld (os : Os) : World :=
  let w := World.holding Tryd.prog os ⟨#[], #[], []⟩
  let put (g : Nat) (d : DataW Unit) (h : Array Obj) : Array Obj := h.modify g fun
    | .cells _ t frozen => .cells (tabCells d) t frozen
    | o => o
  { w with heap := put 1 Rows.laid_internal_strconv_uint64pow10 (put 6 Rows.laid_math_bits_deBruijn32tab (put 7 Rows.laid_math_bits_deBruijn64tab w.heap)) }
theorem gPow : Tryd.prog.globalNamed "internal/strconv.uint64pow10" = some 1 := by kernel_rfl
theorem gPowType : (Tryd.prog.globals[1]?).map (·.type) = some 150 := by kernel_rfl
theorem cellsPow : Tryd.prog.cellsOf 150 = 20 := by kernel_rfl
theorem cellsU64 : Tryd.prog.cellsOf 129 = 1 := by kernel_rfl
/-- what the list gives -/
theorem tabW {W : World} {r : List (String × DataW Unit)} (h : laidMet Tryd.prog (("internal/strconv.uint64pow10", Rows.laid_internal_strconv_uint64pow10) :: r) W) : TabW W :=
  Lib.tabIs_of_head (rest := r) gPow gPowType Tryd.underlying150 Tryd.underlying129 cellsU64 cellsPow h

set_option maxRecDepth 100000 in
theorem FnExactSoundingsText_calls (H : Type) (enc : TypeId × Value → H) (W : World) (base : Nat) (args : Array Value) (ds gs : List (DataW H)) (before : List MemPlace)
    (hval : ∀ (j : Nat) t v, Tryd.f4.params[j]? = some t → args[j]? = some v → Value.okWide Tryd.prog W .any base t v)
    (hW : DataW.Whole enc Tryd.prog Tryd.f4.params.toList Rows.fnExactSoundingsTextSpec.vars false W args.toList ds gs before) (hL : laidMetH Tryd.prog Rows.fnExactSoundingsTextRow.laid W) (hS : W.ShapedOpen Tryd.prog) :
    Calls Tryd.prog 4 args W fun e W' => ∃ v, e = .returned v ∧ Rows.fnExactSoundingsTextSpec.post enc Tryd.prog Tryd.f4 false true false false W args v W' := by
  have hW' := hW
  obtain ⟨p, q, hA0, hV, rfl, hfz, hnd⟩ := hW
  have hA : DataW.TrodAll enc Tryd.prog W 0 (fun _ => true) true Tryd.f4.params.toList args.toList ds p := hA0
  rw [Tryd.params4] at hA hval
  obtain ⟨v0, vs0, d0, ds0, p0, q0, hargs, rfl, rfl, h0, r0⟩ := trodAll_cons hA
  obtain ⟨rfl, rfl, rfl⟩ := trodAll_nil r0
  obtain rfl : args = #[v0] := by cases args; simp_all
  obtain ⟨A, c, xs, rfl, hx⟩ := open_snds (hval 0 _ v0 rfl rfl) h0
  have ht : TabW W := tabW (laidMet.tail (laidMet.tail hL))
  refine (lawSoundingsText_any A c xs W ht hx).mono fun e W' ⟨he, bel⟩ => ?_
  subst he
  exact ⟨_, rfl, law_post hW' rfl (by kernel_rfl) rfl ⟨rfl, rfl, rfl⟩ bel⟩

theorem FnExactSoundingsText_met (os : Os) : laidMet Tryd.prog Rows.fnExactSoundingsTextRow.laid ((laidWorld os).forCall (fun _ _ => 0) ⟨#[], #[.slice none 0 0], []⟩).memory :=
  laidMet_of_run' 8 (by kernel_rfl) (by kernel_rfl)
theorem FnExactSoundingsText_reads (os : Os) {H : Type} (enc : TypeId × Value → H) : ∃ places, DataW.whole enc Tryd.prog ((laidWorld os).forCall (fun _ _ => 0) ⟨#[], #[.slice none 0 0], []⟩).memory Tryd.f4.params.toList Rows.fnExactSoundingsTextSpec.vars false #[.slice none 0 0].toList 8 = some ([.nil], [], places) :=
  ⟨[], by kernel_rfl⟩
set_option maxRecDepth 100000 in
theorem FnExactSoundingsText_lifted (os : Os) (started : os.Started) (H : Type) (enc : TypeId × Value → H) (F : Stop.Interp) :
    ReturnsInHanded {} Tryd.checked os 4 .any ((OpenSpec.ofChange Rows.fnExactSoundingsTextSpec).preRow enc Tryd.prog Tryd.f4 Rows.fnExactSoundingsTextRow.domain false Rows.fnExactSoundingsTextRow.laid) (((OpenSpec.ofChange Rows.fnExactSoundingsTextSpec).at F).post enc Tryd.prog Tryd.f4 false true false false) := by
  obtain ⟨places, hx⟩ := FnExactSoundingsText_reads os enc
  refine returnsInHanded_of_row (C := Tryd.checked) (s := OpenSpec.ofChange Rows.fnExactSoundingsTextSpec) own started (by kernel_rfl) Tryd.func4
    (witness_row_at (enc := enc) (C := Tryd.checked) false (laidWorld os) #[.slice none 0 0] rfl (by kernel_rfl) (by kernel_rfl) (by kernel_rfl)
      (OpenSpec.preRow_of_cond 8 hx (by kernel_rfl) (fun k hk => by cases hk) (by kernel_rfl) (FnExactSoundingsText_met os))) ?_
  intro W base args ds gs before hval hW _ _ _ hL hS _
  exact FnExactSoundingsText_calls H enc W base args ds gs before hval hW hL hS

theorem FnExactSoundingsText_said : Rows.FnExactSoundingsTextSaid :=
  OpenClaim.holds_of_cond 4 Tryd.f4 rfl rfl rfl rfl rfl rfl rfl ⟨rfl, rfl, rfl, rfl, rfl⟩ rfl rfl rfl rfl rfl (by kernel_rfl) Tryd.func4 (by kernel_rfl)
    (of_decide_eq_true (by kernel_rfl)) (by unfold Func.isWrapper; first | (rw [if_pos (by decide +kernel)]; kernel_rfl) | (rw [if_neg (by decide +kernel)]; exact ⟨rfl, rfl⟩))
    (fun os started H enc _ F => by rw [OpenClaim.pre_eq_preRow]; exact FnExactSoundingsText_lifted os started H enc F)

theorem FnExactSoundingsText_plain (f : FuncId) (fn : Func) (hf : Tryd.pinned.checked.prog.funcNamed "loop.example/g00915/laws.FnExactSoundingsText" = some f) (hfn : Tryd.pinned.checked.prog.funcs[f]? = some fn) :
    Rows.fnExactSoundingsTextCard.stood.looks = Tryd.pinned.checked.prog.looks [] ∧ ∀ (j : Nat) t, fn.params[j]? = some t → Tryd.pinned.checked.prog.wantsStandIn t = false := by
  obtain rfl : f = 4 := Option.some.inj ((show Tryd.prog.funcNamed "loop.example/g00915/laws.FnExactSoundingsText" = some 4 by kernel_rfl).symm.trans hf) |>.symm
  obtain rfl : fn = Tryd.f4 := (Option.some.inj (Tryd.func4.symm.trans hfn)).symm
  refine ⟨by kernel_rfl, fun j t ht => ?_⟩
  rw [Tryd.params4] at ht
  have hm := Array.mem_of_getElem? ht
  have ha : (Tryd.f4.params.all fun t => Tryd.prog.wantsStandIn t == false) = true := by kernel_rfl
  rw [Tryd.params4] at ha
  rw [Array.all_eq_true_iff_forall_mem] at ha
  exact beq_iff_eq.1 (ha t hm)

/-- the statement -/
theorem FnExactSoundingsText_holds : Rows.FnExactSoundingsTextCardSaid :=
  Claim7.holds_tied_plain_at .later [] _ _ _ _ FnExactSoundingsText_said (fun _ h => by cases h) (by kernel_rfl) (fun _ h => by cases h) fnExactSoundingsText_row_tie rfl ⟨rfl, rfl⟩ (by kernel_rfl) rfl FnExactSoundingsText_plain (by kernel_rfl)
#print axioms FnExactSoundingsText_holds
end Go.Proofs.YtebdokpokbcgjaaDoor
