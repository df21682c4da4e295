/- From a contract of a law's function to the row's step: the arguments opened, the row closed. -/
import Derived.Test.YtjabldjffpjkeaaInts
import Derived.Deep.Slices
import Derived.ProofKit
import Derived.OpenShut
import Derived.ChangeOld
import Derived.Lib.SmallJoins
namespace Go.Proofs.Ytjabldjffpjkeaa
set_option maxRecDepth 100000
set_option linter.unusedSimpArgs false
set_option linter.unusedVariables false
open Go.ChangeShapes Go.WideShapes Go.ChangeAt Go.RowKit Go.Joins

theorem own : ownKnob Try.prog.godebug = none := by kernel_rfl
theorem laidOut : laidOutB Try.prog = true := by kernel_rfl

section
variable {H : Type} {enc : TypeId × Value → H}

theorem trodAll_below {W W' : World} (hb : Below W.heap.size W W') : ∀ (ts : List TypeId), (ts.all fun t => Try.prog.readableRec t && decide (t < Try.prog.types.size)) = true → ∀ (vs : List Value) (ds : List (DataW H)) (ps : List MemPlace),
    DataW.TrodAll enc Try.prog W 0 (fun _ => true) true ts vs ds ps → DataW.TrodAll enc Try.prog W' 0 (fun b => decide (b < W.heap.size)) true ts vs ds ps := by
  intro ts
  induction ts with
  | nil =>
    intro _ vs ds ps h
    obtain ⟨rfl, rfl, rfl⟩ := trodAll_nil h
    exact trodAll_mk0
  | cons t ts ih =>
    intro ht vs ds ps h
    obtain ⟨v, vs', d, ds', p, q, rfl, rfl, rfl, h0, hr⟩ := trodAll_cons h
    simp only [List.all_cons, Bool.and_eq_true, decide_eq_true_eq] at ht
    obtain ⟨m, hm⟩ := id h0
    exact trodAll_cons_mk (Below.trod laidOut ht.1.1 ht.1.2 h0 hb (DataW.trod_lt m _ _ _ hm)) (ih ht.2 _ _ _ hr)

/-- the row's step behind a law that answers true and turns nothing that was there -/
theorem law_post {f : Func} {s : ChangeSpec} {handsOn : Bool} {W W' : World} {args : Array Value} {ds gs : List (DataW H)} {before : List MemPlace}
    (hW : DataW.Whole enc Try.prog f.params.toList s.vars false W args.toList ds gs before) (hv : s.vars = [])
    (hp : (f.params.toList.all fun t => Try.prog.readableRec t && decide (t < Try.prog.types.size)) = true) (hr : f.resultTypes = #[4])
    (hfn : (s.fn H ds).results = [.lit (.bool true)] ∧ (s.fn H ds).args = ds ∧ (s.fn H ds).vars = []) (hb : Below W.heap.size W W') : s.post enc Try.prog f false true handsOn false W args (.bool true) W' := by
  have hW' := hW
  obtain ⟨p, q, hA, hV, rfl, hfz, hnd⟩ := hW
  rw [hv] at hV
  obtain ⟨rfl, rfl⟩ := trodVars_none hV
  simp only [List.append_nil] at hW'
  refine ⟨ds, [], p, [], p, [], hW', ?_, ?_, ?_, World.keptBut_mono (fun x hx => ⟨hx, Or.inr (Or.inl hx)⟩) (hb.frame _), fun h => by cases h⟩
  · rw [List.append_nil, hfn.1, hr]
    exact trodAll_mk1 (shut_bool Try.underlying4 _)
  · rw [List.append_nil, hfn.2.1]
    exact trodAll_below hb _ hp _ _ _ hA
  · rw [List.append_nil, hfn.2.2, hv]
    rfl



/-- a list of numbers that came in -/
theorem open_nums {W : World} {n : Nat} {v : Value} {y : DataW H × List MemPlace} (h : DataW.trod enc Try.prog W 0 (fun _ => true) true n 26 [v] = some y) :
    ∃ A c xs, v = .slice A xs.length c ∧ IntsAt W A c xs ∧ ∀ x ∈ xs, -9223372036854775808 ≤ x ∧ x ≤ 9223372036854775807 := by
  rcases open_ints Try.underlying26 Try.underlying2 (by kernel_rfl) h with ⟨hcs, _⟩ | ⟨a, l, c, zs, hcs, _, hl, hm, hz, _, hcell, hwz⟩
  · simp at hcs
    subst hcs
    exact ⟨none, 0, [], rfl, ⟨by simp, by simp, .inl rfl⟩, by simp⟩
  · simp at hcs
    subst hcs
    simp at hz
    have hwf : ∀ x ∈ zs.take l, -9223372036854775808 ≤ x ∧ x ≤ 9223372036854775807 := fun x hx => bounds_i64 (hwz x (List.mem_of_mem_take hx))
    have hlen : (zs.take l).length = l := by rw [List.length_take]; omega
    rcases Nat.eq_zero_or_pos l with h0 | hp
    · subst h0
      exact ⟨some a, c, [], rfl, ⟨by simp, by simpa [maxLen] using hm, .inl rfl⟩, by simp⟩
    · obtain ⟨b, off, rfl, hc⟩ := ints_at hcell (by omega)
      refine ⟨_, c, zs.take l, by rw [hlen], ⟨by omega, by simpa [maxLen] using hm, .inr ⟨b, off, rfl, ?_, fun i x hx => ?_⟩⟩, hwf⟩
      · exact World.block_lt_of_cell? W _ (hc 0 (by omega))
      · have hil : i < l := by have := (List.getElem?_eq_some_iff.1 hx).1; omega
        rw [hc i (by omega)]
        rw [List.getElem?_take, if_pos hil] at hx
        simp [List.getD, hx]

end
end Go.Proofs.Ytjabldjffpjkeaa
