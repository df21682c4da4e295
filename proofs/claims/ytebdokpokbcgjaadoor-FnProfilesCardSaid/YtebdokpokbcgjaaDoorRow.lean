/- From a contract of a law's function to the row's step: the arguments opened, the row closed. -/
import Derived.Test.YtebdokpokbcgjaaDoorSnd2
import Derived.Test.YtebdokpokbcgjaaDoorInts
import Derived.Deep.Slices
import Derived.ProofKit
import Derived.OpenShut
import Derived.ChangeOld
import Derived.Lib.SmallJoins
namespace Go.Proofs.YtebdokpokbcgjaaDoor
set_option maxRecDepth 100000
set_option linter.unusedSimpArgs false
set_option linter.unusedVariables false
open Go.ChangeShapes Go.WideShapes Go.ChangeAt Go.RowKit Go.Joins

theorem own : ownKnob Tryd.prog.godebug = none := by kernel_rfl
theorem laidOut : laidOutB Tryd.prog = true := by kernel_rfl

section
variable {H : Type} {enc : TypeId × Value → H}

theorem trodAll_below {W W' : World} (hb : Below W.heap.size W W') : ∀ (ts : List TypeId), (ts.all fun t => Tryd.prog.readableRec t && decide (t < Tryd.prog.types.size)) = true → ∀ (vs : List Value) (ds : List (DataW H)) (ps : List MemPlace),
    DataW.TrodAll enc Tryd.prog W 0 (fun _ => true) true ts vs ds ps → DataW.TrodAll enc Tryd.prog W' 0 (fun b => decide (b < W.heap.size)) true ts vs ds ps := by
  intro ts
  induction ts with
  | nil =>
    intro _ vs ds ps h
    obtain ⟨rfl, rfl, rfl⟩ := trodAll_nil h
    exact trodAll_mk0
  | cons t ts ih =>
    intro ht vs ds ps h
    obtain ⟨v, vs', d, ds', p, q, rfl, rfl, rfl, h0, hr⟩ := trodAll_cons h
    simp only [List.all_cons, Bool.and_eq_true, decide_eq_true_eq] at ht
    obtain ⟨m, hm⟩ := id h0
    exact trodAll_cons_mk (Below.trod laidOut ht.1.1 ht.1.2 h0 hb (DataW.trod_lt m _ _ _ hm)) (ih ht.2 _ _ _ hr)

/-- the row's step behind a law that answers true and turns nothing that was there -/
theorem law_post {f : Func} {s : ChangeSpec} {handsOn : Bool} {W W' : World} {args : Array Value} {ds gs : List (DataW H)} {before : List MemPlace}
    (hW : DataW.Whole enc Tryd.prog f.params.toList s.vars false W args.toList ds gs before) (hv : s.vars = [])
    (hp : (f.params.toList.all fun t => Tryd.prog.readableRec t && decide (t < Tryd.prog.types.size)) = true) (hr : f.resultTypes = #[4])
    (hfn : (s.fn H ds).results = [.lit (.bool true)] ∧ (s.fn H ds).args = ds ∧ (s.fn H ds).vars = []) (hb : Below W.heap.size W W') : s.post enc Tryd.prog f false true handsOn false W args (.bool true) W' := by
  have hW' := hW
  obtain ⟨p, q, hA, hV, rfl, hfz, hnd⟩ := hW
  rw [hv] at hV
  obtain ⟨rfl, rfl⟩ := trodVars_none hV
  simp only [List.append_nil] at hW'
  refine ⟨ds, [], p, [], p, [], hW', ?_, ?_, ?_, World.keptBut_mono (fun x hx => ⟨hx, Or.inr (Or.inl hx)⟩) (hb.frame _), fun h => by cases h⟩
  · rw [List.append_nil, hfn.1, hr]
    exact trodAll_mk1 (shut_bool Tryd.underlying4 _)
  · rw [List.append_nil, hfn.2.1]
    exact trodAll_below hb _ hp _ _ _ hA
  · rw [List.append_nil, hfn.2.2, hv]
    rfl

/-- a sounding that came in -/
theorem open_snd {W : World} {base : Nat} {v : Value} {d : DataW H} {p : List MemPlace} (hv : Value.okWide Tryd.prog W .any base 75 v) (h : DataW.Trod enc Tryd.prog W 0 (fun _ => true) true 75 v d p) :
    ∃ a b c e : Int, v = sndV a b c e := by
  obtain ⟨c0, c1, c2, c3, y0, y1, y2, y3, m, rfl, rfl, rfl, h0, h1, h2, h3⟩ := open_agg4 Tryd.underlying75 (by kernel_rfl) (by kernel_rfl) hv h
  obtain ⟨a, e0, -, -⟩ := DataW.trod_int Tryd.underlying2 h0
  obtain ⟨b, e1, -, -⟩ := DataW.trod_int Tryd.underlying2 h1
  obtain ⟨c, e2, -, -⟩ := DataW.trod_int Tryd.underlying2 h2
  obtain ⟨e, e3, -, -⟩ := DataW.trod_int Tryd.underlying2 h3
  simp at e0 e1 e2 e3
  subst e0 e1 e2 e3
  exact ⟨a, b, c, e, rfl⟩

/-- a list of soundings that came in -/
theorem open_snds {W : World} {base : Nat} {v : Value} {d : DataW H} {p : List MemPlace} (hv : Value.okWide Tryd.prog W .any base 31 v) (h : DataW.Trod enc Tryd.prog W 0 (fun _ => true) true 31 v d p) :
    ∃ A c xs, v = .slice A xs.length c ∧ SndsAt W A c xs := by
  obtain ⟨A, len, cap, rfl⟩ := okWide_slice Tryd.underlying31 hv
  obtain ⟨fuel, hf⟩ := h
  rcases Go.Deep.open_slice Tryd.underlying31 hf with ⟨hcs, _⟩ | ⟨a, l, c, m, n, D, Pl, hcs, _, hl, hm, hmm, _, hi⟩
  · simp [Value.cells] at hcs
    obtain ⟨rfl, rfl, rfl⟩ := hcs
    exact ⟨none, 0, [], rfl, by simp, by simp, .inl rfl⟩
  · simp [Value.cells] at hcs
    obtain ⟨rfl, rfl, rfl⟩ := hcs
    have hmle : len ≤ m := by rw [hmm]; split <;> omega
    have hC : Tryd.prog.cellsOf 75 = 4 := by kernel_rfl
    have each : ∀ i, i < len → ∃ s : Snd, W.cell? (a.add (i * 4)) = some (.int .i64 s.x) ∧ W.cell? (a.add (i * 4 + 1)) = some (.int .i64 s.y) ∧ W.cell? (a.add (i * 4 + 2)) = some (.int .i64 s.d) ∧ W.cell? (a.add (i * 4 + 3)) = some (.int .i64 s.e) := by
      intro i hil
      obtain ⟨cs', hc, ht⟩ := hi i (by omega)
      rw [hC] at hc
      obtain ⟨_, hlen, hat⟩ := World.cells?_some hc
      obtain ⟨y0, y1, y2, y3, k, _, _, h0, h1, h2, h3⟩ := trod_struct4 Tryd.underlying75 ht
      match cs', hlen with
      | [c0, c1, c2, c3], _ =>
        have hI : Tryd.prog.cellsOf 2 = 1 := by kernel_rfl
        simp only [hI] at h0 h1 h2 h3
        obtain ⟨x, e0, -, -⟩ := DataW.trod_int Tryd.underlying2 h0
        obtain ⟨y, e1, -, -⟩ := DataW.trod_int Tryd.underlying2 h1
        obtain ⟨dd, e2, -, -⟩ := DataW.trod_int Tryd.underlying2 h2
        obtain ⟨e, e3, -, -⟩ := DataW.trod_int Tryd.underlying2 h3
        simp at e0 e1 e2 e3
        subst e0 e1 e2 e3
        refine ⟨⟨x, y, dd, e⟩, ?_, ?_, ?_, ?_⟩
        · have := hat 0 (by omega); rw [Go.Deep.add_add] at this; simpa using this
        · have := hat 1 (by omega); rw [Go.Deep.add_add] at this; simpa using this
        · have := hat 2 (by omega); rw [Go.Deep.add_add] at this; simpa using this
        · have := hat 3 (by omega); rw [Go.Deep.add_add] at this; simpa using this
    rcases Nat.eq_zero_or_pos len with h0 | hp
    · subst h0
      exact ⟨some a, cap, [], rfl, by simp, by simpa [maxLen] using hm, .inl rfl⟩
    · have h0 := (each 0 hp)
      obtain ⟨s0, hs0, _⟩ := h0
      obtain ⟨b, off, spot⟩ := a
      have hspot : spot = none := by simpa [Addr.add] using World.cell?_spot hs0
      subst hspot
      have inh : Inhabited Snd := ⟨⟨0, 0, 0, 0⟩⟩
      obtain ⟨V, hV⟩ := Go.Deep.choose_lt (α := Snd) (n := len) (p := fun i s => W.cell? ((⟨b, off, none⟩ : Addr).add (i * 4)) = some (.int .i64 s.x) ∧ W.cell? ((⟨b, off, none⟩ : Addr).add (i * 4 + 1)) = some (.int .i64 s.y) ∧ W.cell? ((⟨b, off, none⟩ : Addr).add (i * 4 + 2)) = some (.int .i64 s.d) ∧ W.cell? ((⟨b, off, none⟩ : Addr).add (i * 4 + 3)) = some (.int .i64 s.e)) each
      refine ⟨_, cap, (List.range len).map V, by simp, by simpa using hl, by simpa [maxLen] using hm, .inr ⟨b, off, rfl, ?_, fun i s hs => ?_⟩⟩
      · have := World.block_lt_of_cell? W _ hs0
        simpa [Go.WideShapes.add_plain] using this
      · have hil : i < len := by have := (List.getElem?_eq_some_iff.1 hs).1; simpa using this
        rw [List.getElem?_map, List.getElem?_range hil] at hs
        simp at hs
        subst hs
        have := hV i hil
        simp only [Go.WideShapes.add_plain] at this
        exact ⟨this.1, by simpa [Nat.add_assoc] using this.2.1, by simpa [Nat.add_assoc] using this.2.2.1, by simpa [Nat.add_assoc] using this.2.2.2⟩

/-- a list of numbers that came in -/
theorem open_nums {W : World} {n : Nat} {v : Value} {y : DataW H × List MemPlace} (h : DataW.trod enc Tryd.prog W 0 (fun _ => true) true n 22 [v] = some y) :
    ∃ A c xs, v = .slice A xs.length c ∧ IntsAt W A c xs ∧ ∀ x ∈ xs, -9223372036854775808 ≤ x ∧ x ≤ 9223372036854775807 := by
  rcases open_ints Tryd.underlying22 Tryd.underlying2 (by kernel_rfl) h with ⟨hcs, _⟩ | ⟨a, l, c, zs, hcs, _, hl, hm, hz, _, hcell, hwz⟩
  · simp at hcs
    subst hcs
    exact ⟨none, 0, [], rfl, ⟨by simp, by simp, .inl rfl⟩, by simp⟩
  · simp at hcs
    subst hcs
    simp at hz
    have hwf : ∀ x ∈ zs.take l, -9223372036854775808 ≤ x ∧ x ≤ 9223372036854775807 := fun x hx => bounds_i64 (hwz x (List.mem_of_mem_take hx))
    have hlen : (zs.take l).length = l := by rw [List.length_take]; omega
    rcases Nat.eq_zero_or_pos l with h0 | hp
    · subst h0
      exact ⟨some a, c, [], rfl, ⟨by simp, by simpa [maxLen] using hm, .inl rfl⟩, by simp⟩
    · obtain ⟨b, off, rfl, hc⟩ := ints_at hcell (by omega)
      refine ⟨_, c, zs.take l, by rw [hlen], ⟨by omega, by simpa [maxLen] using hm, .inr ⟨b, off, rfl, ?_, fun i x hx => ?_⟩⟩, hwf⟩
      · exact World.block_lt_of_cell? W _ (hc 0 (by omega))
      · have hil : i < l := by have := (List.getElem?_eq_some_iff.1 hx).1; omega
        rw [hc i (by omega)]
        rw [List.getElem?_take, if_pos hil] at hx
        simp [List.getD, hx]

/-- a gauge that came in -/
theorem open_gauge {W : World} {base : Nat} {v : Value} {d : DataW H} {p : List MemPlace} (hv : Value.okWide Tryd.prog W .any base 24 v) (h : DataW.Trod enc Tryd.prog W 0 (fun _ => true) true 24 v d p) :
    ∃ A1 c1 A2 c2 ds ss, v = .agg #[.slice A1 (List.length ds) c1, .slice A2 (List.length ss) c2] ∧ IntsAt W A1 c1 ds ∧ IntsAt W A2 c2 ss := by
  obtain ⟨c0, c1, y0, y1, m, rfl, rfl, rfl, h0, h1⟩ := open_agg2 Tryd.underlying24 (by kernel_rfl) (by kernel_rfl) hv h
  obtain ⟨A1, c1, ds, rfl, g1, -⟩ := open_nums h0
  obtain ⟨A2, c2, ss, rfl, g2, -⟩ := open_nums h1
  exact ⟨A1, c1, A2, c2, ds, ss, rfl, g1, g2⟩
end
end Go.Proofs.YtebdokpokbcgjaaDoor
