/- FnProfiles (the tied card): for every code, the law answers true: a profile is recovered from its text, and a cut one has the beginning of its knots; the listed variables as the program lays them. -/
import Derived.Test.YtebdokpokbcgjaaDoorBytes
import Derived.Test.YtebdokpokbcgjaaDoorPrTop
import Derived.Test.YtebdokpokbcgjaaDoorCards
import Derived.Test.YtebdokpokbcgjaaDoorTie
import Derived.Deep.DeepHandedRow
import Derived.Lib.LaidTab
import Derived.Stop.LaidErr
import Derived.Deep.DeepWitnessRowRef
import Derived.ChangeMaps5
namespace Go.Proofs.YtebdokpokbcgjaaDoor
set_option linter.unusedSimpArgs false
set_option linter.unusedVariables false
open Go.ChangeShapes Go.WideShapes Go.ChangeAt Go.RowKit

/-- the cells of a listed table -/
def cellsOfD : DataW Unit → List Value
  | .lit (.int k z) => [Value.int k z]
  | _ => [undef]
def tabCells : DataW Unit → Array Value
  | .agg ds => (ds.flatMap fun | .agg es => es.flatMap cellsOfD | d => cellsOfD d).toArray
  | _ => #[]
abbrev rangeText : ByteArray := ⟨#[118, 97, 108, 117, 101, 32, 111, 117, 116, 32, 111, 102, 32, 114, 97, 110, 103, 101]⟩
abbrev wrongText : ByteArray := ⟨#[105, 110, 118, 97, 108, 105, 100, 32, 115, 121, 110, 116, 97, 120]⟩
/-- a world for the witness: the settled one, the listed tables as laid, the two errors -/
noncomputable def laidWorld (os : Os) : World :=
  let N := (World.settled Tryd.prog os).heap.size
  let w := World.holding Tryd.prog os ⟨#[.cells #[.string rangeText] 169, .cells #[.string wrongText] 169], #[], []⟩
  let put (g : Nat) (cs : Array Value) (h : Array Obj) : Array Obj := h.modify g fun
    | .cells _ t frozen => .cells cs t frozen
    | o => o
  { w with heap := put 3 #[.iface 167 (.pointer (some ⟨N, 0, none⟩))] (put 2 #[.iface 167 (.pointer (some ⟨N + 1, 0, none⟩))] (put 4 (tabCells Rows.laid_unicode_utf8_first) (put 5 (tabCells Rows.laid_unicode_utf8_acceptRanges) (put 1 (tabCells Rows.laid_internal_strconv_uint64pow10) (put 6 (tabCells Rows.laid_math_bits_deBruijn32tab) (put 7 (tabCells Rows.laid_math_bits_deBruijn64tab) w.heap)))))) }
theorem gPow : Tryd.prog.globalNamed "internal/strconv.uint64pow10" = some 1 := by kernel_rfl
theorem gPowType : (Tryd.prog.globals[1]?).map (·.type) = some 150 := by kernel_rfl
theorem cellsPow : Tryd.prog.cellsOf 150 = 20 := by kernel_rfl
theorem cellsU64 : Tryd.prog.cellsOf 129 = 1 := by kernel_rfl
theorem gES : Tryd.prog.globalNamed "strconv.ErrSyntax" = some 2 := by kernel_rfl
theorem gER : Tryd.prog.globalNamed "strconv.ErrRange" = some 3 := by kernel_rfl
theorem gESType : (Tryd.prog.globals[2]?).map (·.type) = some 107 := by kernel_rfl
theorem gERType : (Tryd.prog.globals[3]?).map (·.type) = some 107 := by kernel_rfl
theorem starErr : "*" ++ "errors.errorString" = "*errors.errorString" := by decide
theorem rowErr (u : TypeId) (h : Tryd.prog.typeName? 3 u = some "*errors.errorString") : u = 167 :=
  typeName_ptr_named (nm := "errors.errorString") (by rw [starErr]; kernel_rfl) (by kernel_rfl) (by decide) u (by rw [starErr]; exact h)
theorem cellsErr : Tryd.prog.cellsOf 169 = 1 := by kernel_rfl
theorem cellsStr : Tryd.prog.cellsOf 9 = 1 := by kernel_rfl
/-- what the list gives -/
theorem tabW {W : World} {r : List (String × DataW Unit)} (h : laidMet Tryd.prog (("internal/strconv.uint64pow10", Rows.laid_internal_strconv_uint64pow10) :: r) W) : TabW W :=
  Lib.tabIs_of_head (rest := r) gPow gPowType Tryd.underlying150 Tryd.underlying129 cellsU64 cellsPow h
theorem rdW {W : World} {a b d : String × DataW Unit} {r : List (String × DataW Unit)} (h : laidMet Tryd.prog (a :: b :: ("internal/strconv.uint64pow10", Rows.laid_internal_strconv_uint64pow10) :: d :: ("strconv.ErrRange", Rows.laid_strconv_ErrRange) :: ("strconv.ErrSyntax", Rows.laid_strconv_ErrSyntax) :: r) W) (hS : W.ShapedOpen Tryd.prog) : RdW W := by
  have h2 := laidMet.tail (laidMet.tail h)
  have h4 := laidMet.tail (laidMet.tail h2)
  obtain ⟨a0, s0, v0, -, -, -⟩ := laid_sentinel (g := 3) h4 gER gERType Tryd.underlying107 rowErr Tryd.underlying167 Tryd.underlying169 rfl rfl Tryd.underlying9 cellsErr cellsStr
  obtain ⟨a1, s1, v1, -, -, -⟩ := laid_sentinel (g := 2) (laidMet.tail h4) gES gESType Tryd.underlying107 rowErr Tryd.underlying167 Tryd.underlying169 rfl rfl Tryd.underlying9 cellsErr cellsStr
  exact ⟨tabW h2, Tryd.laysM146.s1_3 W hS, ⟨_, by simpa using World.var?_cell gES v1 0, .inr ⟨_, _, rfl⟩⟩, ⟨_, by simpa using World.var?_cell gER v0 0, .inr ⟨_, _, rfl⟩⟩⟩

set_option maxRecDepth 100000 in
theorem FnProfiles_calls (H : Type) (enc : TypeId × Value → H) (W : World) (base : Nat) (args : Array Value) (ds gs : List (DataW H)) (before : List MemPlace)
    (hval : ∀ (j : Nat) t v, Tryd.f8.params[j]? = some t → args[j]? = some v → Value.okWide Tryd.prog W .any base t v)
    (hW : DataW.Whole enc Tryd.prog Tryd.f8.params.toList Rows.fnProfilesSpec.vars false W args.toList ds gs before) (hL : laidMetH Tryd.prog Rows.fnProfilesRow.laid W) (hS : W.ShapedOpen Tryd.prog) :
    Calls Tryd.prog 8 args W fun e W' => ∃ v, e = .returned v ∧ Rows.fnProfilesSpec.post enc Tryd.prog Tryd.f8 false true false false W args v W' := by
  have hW' := hW
  obtain ⟨p, q, hA0, hV, rfl, hfz, hnd⟩ := hW
  have hA : DataW.TrodAll enc Tryd.prog W 0 (fun _ => true) true Tryd.f8.params.toList args.toList ds p := hA0
  rw [Tryd.params8] at hA hval
  obtain ⟨v0, vs0, d0, ds0, p0, q0, hargs, rfl, rfl, h0, r0⟩ := trodAll_cons hA
  obtain ⟨rfl, rfl, rfl⟩ := trodAll_nil r0
  obtain rfl : args = #[v0] := by cases args; simp_all
  obtain ⟨A1, c1, xs, rfl, hx⟩ := open_code (hval 0 _ v0 rfl rfl) h0
  have ht : RdW W := rdW (a := _) (b := _) (d := _) hL hS
  refine (lawProfiles_any A1 c1 xs W ht hx).mono fun e W' ⟨he, bel⟩ => ?_
  subst he
  exact ⟨_, rfl, law_post hW' rfl (by kernel_rfl) rfl ⟨rfl, rfl, rfl⟩ bel⟩

theorem FnProfiles_met (os : Os) : laidMet Tryd.prog Rows.fnProfilesRow.laid ((laidWorld os).forCall (fun _ _ => 0) ⟨#[], #[.slice none 0 0], []⟩).memory :=
  laidMet_of_run' 8 (by kernel_rfl) (by kernel_rfl)
theorem FnProfiles_reads (os : Os) {H : Type} (enc : TypeId × Value → H) : ∃ places, DataW.whole enc Tryd.prog ((laidWorld os).forCall (fun _ _ => 0) ⟨#[], #[.slice none 0 0], []⟩).memory Tryd.f8.params.toList Rows.fnProfilesSpec.vars false #[.slice none 0 0].toList 8 = some ([.nil], [], places) :=
  ⟨[], by kernel_rfl⟩
set_option maxRecDepth 100000 in
theorem FnProfiles_lifted (os : Os) (started : os.Started) (H : Type) (enc : TypeId × Value → H) (F : Stop.Interp) :
    ReturnsInHanded {} Tryd.checked os 8 .any ((OpenSpec.ofChange Rows.fnProfilesSpec).preRow enc Tryd.prog Tryd.f8 Rows.fnProfilesRow.domain false Rows.fnProfilesRow.laid) (((OpenSpec.ofChange Rows.fnProfilesSpec).at F).post enc Tryd.prog Tryd.f8 false true false false) := by
  obtain ⟨places, hx⟩ := FnProfiles_reads os enc
  refine returnsInHanded_of_row (C := Tryd.checked) (s := OpenSpec.ofChange Rows.fnProfilesSpec) own started (by kernel_rfl) Tryd.func8
    (witness_row_atRef (enc := enc) (C := Tryd.checked) false (laidWorld os) #[.slice none 0 0] rfl (by kernel_rfl) (by kernel_rfl) (by kernel_rfl)
      (OpenSpec.preRow_of_cond 8 hx (by kernel_rfl) (fun k hk => by cases hk) (by kernel_rfl) (FnProfiles_met os))) ?_
  intro W base args ds gs before hval hW _ _ _ hL hS _
  exact FnProfiles_calls H enc W base args ds gs before hval hW hL hS

theorem FnProfiles_said : Rows.FnProfilesSaid :=
  OpenClaim.holds_of_cond 8 Tryd.f8 rfl rfl rfl rfl rfl rfl rfl ⟨rfl, rfl, rfl, rfl, rfl⟩ rfl rfl rfl rfl rfl (by kernel_rfl) Tryd.func8 (by kernel_rfl)
    (of_decide_eq_true (by kernel_rfl)) (by unfold Func.isWrapper; first | (rw [if_pos (by decide +kernel)]; kernel_rfl) | (rw [if_neg (by decide +kernel)]; exact ⟨rfl, rfl⟩))
    (fun os started H enc _ F => by rw [OpenClaim.pre_eq_preRow]; exact FnProfiles_lifted os started H enc F)

theorem FnProfiles_plain (f : FuncId) (fn : Func) (hf : Tryd.pinned.checked.prog.funcNamed "loop.example/g00915/laws.FnProfiles" = some f) (hfn : Tryd.pinned.checked.prog.funcs[f]? = some fn) :
    Rows.fnProfilesCard.stood.looks = Tryd.pinned.checked.prog.looks [] ∧ ∀ (j : Nat) t, fn.params[j]? = some t → Tryd.pinned.checked.prog.wantsStandIn t = false := by
  obtain rfl : f = 8 := Option.some.inj ((show Tryd.prog.funcNamed "loop.example/g00915/laws.FnProfiles" = some 8 by kernel_rfl).symm.trans hf) |>.symm
  obtain rfl : fn = Tryd.f8 := (Option.some.inj (Tryd.func8.symm.trans hfn)).symm
  refine ⟨by kernel_rfl, fun j t ht => ?_⟩
  rw [Tryd.params8] at ht
  have hm := Array.mem_of_getElem? ht
  have ha : (Tryd.f8.params.all fun t => Tryd.prog.wantsStandIn t == false) = true := by kernel_rfl
  rw [Tryd.params8] at ha
  rw [Array.all_eq_true_iff_forall_mem] at ha
  exact beq_iff_eq.1 (ha t hm)

/-- the statement -/
theorem FnProfiles_holds : Rows.FnProfilesCardSaid :=
  Claim7.holds_tied_plain_at .later [] _ _ _ _ FnProfiles_said (fun _ h => by cases h) (by kernel_rfl) (fun _ h => by cases h) fnProfiles_row_tie rfl ⟨rfl, rfl⟩ (by kernel_rfl) rfl FnProfiles_plain (by kernel_rfl)
#print axioms FnProfiles_holds
end Go.Proofs.YtebdokpokbcgjaaDoor
