/- Lists of numbers read by the program. -/
import Derived.Test.YtebdokpokbcgjaaDoorRdL
namespace Go.Proofs.YtebdokpokbcgjaaDoor
set_option linter.unusedSimpArgs false
set_option linter.unusedVariables false
open Go.RowKit

set_option maxRecDepth 20000 in
set_option maxHeartbeats 4000000 in
theorem readNumbers_any (l : List UInt8) (b : UInt8) (many : Nat) (w : World) (hl : l.length ≤ 1100000) (hr : RdW w) (hm : many ≤ 10) :
    Calls Tryd.prog 68 #[strL l, strL [b], .int .i64 (many : Int)] w fun e w' => NumsR e w' (rdL rdZ (spl b l)) (fun M => ((M.length : Int) == (many : Int))) ∧ Below w.heap.size w w' := by
  have HR := Lib.hid hr; clear hr
  have SP := Lib.hid (split_any l b w (by omega) HR.out)
  have hL : (spl b l).length ≤ 1100001 := by have := splB_size b l []; unfold spl; omega
  have HW := Lib.hid (show ∀ z ∈ spl b l, z.length ≤ 2000000 from fun z hz => by have := spl_word hz; omega)
  obtain ⟨L, hLe⟩ : ∃ L, L = spl b l := ⟨_, rfl⟩
  rw [← hLe] at SP hL HW ⊢
  clear hLe
  go_enter Tryd.func68, Tryd.ntmps68
  go_wp2_with (go_at_call 63; refine SP.out.mono ?_; rintro e_ w1 ⟨⟨A, c, rfl, hs⟩, hb1⟩)
  have HS := Lib.hid hs; clear hs
  have hz1 := hb1.size
  have HB1 := Lib.hid hb1; clear hb1
  go_loopw [9, 19] (fun o i wr => Below w1.heap.size w1 wr ∧ ∃ (k : Nat) (M : List Int), k ≤ L.length ∧ M.length = k ∧ i = .int .i64 k ∧ OwnI wr w1.heap.size o M ∧ rdL rdZ (L.take k) = some M) (fun _ i _ => L.length - (intOf i).toNat)
  case atStart => exact ⟨Below.refl _ _, 0, [], by omega, rfl, rfl, OwnI.none_ _ _, rfl⟩
  case round =>
    obtain ⟨Br, k, M, hk, hM, rfl, hown, hrd⟩ := hrel
    obtain ⟨A', c', rfl, hc', ho⟩ := id hown
    rw [hM] at ho ⊢
    have sr := Br.size
    have HBr := Lib.hid Br; have HO := Lib.hid ho; have HOI := Lib.hid hown; have HRD := Lib.hid hrd; have HM := Lib.hid hM; clear Br hown hrd hM ho
    have HXr := Lib.hid (HS.out.below HBr.out (Nat.le_refl _))
    have BW := Lib.hid (HB1.out.trans (HBr.out.mono (show w.heap.size ≤ w1.heap.size by omega)))
    have HRr := Lib.hid (HR.out.below BW.out (Nat.le_refl _))
    by_cases hlt : k < L.length
    · obtain ⟨g, off, z, rfl, hg, hz, cz⟩ := HXr.out.at_ hlt
      have hzl := HW.out z (List.mem_of_getElem? hz)
      have HZ := Lib.hid hz; clear hz
      have kk0 : (0 : Int) ≤ k := by omega
      have kk1 : (k : Int) < L.length := by omega
      have CS := Lib.hid (readNumber_any z wr hzl HRr.out)
      cases hr : rdZ z with
      | none =>
        have HN := Lib.hid (rdL_none hr L (List.mem_of_getElem? HZ.out))
        rw [hr] at CS
        clear hr
        go_wp2_with (go_at_call 65; refine CS.out.mono ?_; rintro e_ w2 ⟨⟨n, rfl, hn⟩, hb2⟩)
        go_ret2
        exact ⟨by rw [HN.out]; rfl, BW.out.trans (hb2.mono (by omega))⟩
      | some v =>
        have HN := Lib.hid (rdL_next HRD.out HZ.out hr)
        rw [hr] at CS
        clear hr
        go_wp2_with (first
          | (go_at_call 65; refine CS.out.mono ?_; rintro e_ w2 ⟨⟨n, rfl, hn⟩, hb2⟩; obtain rfl := hn v rfl; have hz2 := hb2.size; have HO1 := Lib.hid (owns_below HO.out hb2 (Nat.le_refl _)); clear hn)
          | (at_builtin; refine app1 rfl _ _ 22 rfl w1.heap.size 2 (.int .i64 0) 8 Tryd.underlying22 infoInt2 rfl (.int .i64 n) rfl _ _ _ rfl _ rfl (owns_below (B := w2.heap.size) HO1.out ?_ (Nat.le_refl _)) ?_ ?_ ?_ ?_ ?_; (focus (first | (go_grown; done) | (refine bdrewN ?_ _; go_grown; done) | exact Below.alloc (bdrewN (Below.refl _ _) _) (Nat.le_refl _) _)); (focus (first | (simp; done) | exact (World.cell?_alloc_new (w := _) _ _ _).trans rfl)); (focus (unfold maxLen; omega)); (focus omega); (focus (first | omega | (simp; omega))); intro v3 w3 hown3 hb3))
        go_roundw
        all_goals first | exact ⟨Below.trans (HBr.out.trans (Below.trans (hb2.mono (show w1.heap.size ≤ wr.heap.size by omega)) (show Below w1.heap.size w2 _ from (by first | exact Below.refl _ _ | (go_grown; done) | exact bdrewN (Below.refl _ _) _)))) hb3, k + 1, M ++ [n], by omega, by rw [List.length_append, HM.out]; rfl, by go_num, OwnI.next rfl (by rw [HM.out]; exact hown3), HN.out⟩ | (simp [intOf]; omega)
    · obtain rfl : k = L.length := by omega
      have e := HRD.out
      rw [List.take_length] at e
      go_wp2
      go_ret2
      refine ⟨?_, BW.out⟩
      rw [e]
      exact ⟨A', c', (show Ending.returned (.tuple #[.slice A' L.length c', .bool ((L.length : Int) == (many : Int))]) = Ending.returned (.tuple #[.slice A' M.length c', .bool ((M.length : Int) == (many : Int))]) by rw [HM.out]), HOI.out.res.at⟩
end Go.Proofs.YtebdokpokbcgjaaDoor
