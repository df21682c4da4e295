/- The draw of a gauge and a time. -/
import Derived.Test.YtjabldjffpjkeaaDraw20
import Derived.Test.YtjabldjffpjkeaaEach
namespace Go.Proofs.Ytjabldjffpjkeaa
set_option linter.unusedSimpArgs false
set_option linter.unusedVariables false
open Go.RowKit

/-- a row of n numbers made here -/
def RowI (lo n : Nat) (v : Value) (w : World) : Prop := ∃ (b : Nat) (ys : List Int), ys.length = n ∧ v = .slice (some ⟨b, 0, none⟩) n n ∧ lo ≤ b ∧ b < w.heap.size ∧ ∀ i x, ys[i]? = some x → w.cell? ⟨b, i, none⟩ = some (.int .i64 x)
theorem RowI.chgB {lo n l h : Nat} {v : Value} {w w1 : World} (k : RowI lo n v w) (hc : ChgB l h w w1) (hl : h ≤ lo) : RowI lo n v w1 := by
  obtain ⟨b, ys, h1, h2, h3, h4, h5⟩ := k
  exact ⟨b, ys, h1, h2, h3, Nat.lt_of_lt_of_le h4 hc.size, fun i x hx => (World.cell?_of_block (w := w) (hc.block b h4 (.inr (by omega)))).trans (h5 i x hx)⟩

theorem SrcAt.keepR {w0 w w1 : World} {S : Nat} {A : Option Addr} {c : Nat} {xs : List Int} (h : SrcAt w S A c xs) (h0 : BytesAt w0 A c xs) (hs : w.heap.size ≤ w1.heap.size) (hS : w1.heap[S]? = w.heap[S]?) (hl : ∀ b, b < w0.heap.size → w1.heap[b]? = w.heap[b]?) : SrcAt w1 S A c xs := by
  have hc : ∀ o, w1.cell? ⟨S, o, none⟩ = w.cell? ⟨S, o, none⟩ := fun o => World.cell?_of_block (w := w) hS
  refine ⟨Nat.lt_of_lt_of_le h.lt hs, fun o => (World.frozen?_of_block (w := w) hS).trans (h.fr o), (hc 0).trans h.code, ?_, ?_, h.bytes.blocks hs (fun hx b off e => ?_), h.low⟩
  · obtain ⟨k, h1, h2⟩ := h.at_
    exact ⟨k, h1, (hc 1).trans h2⟩
  · obtain ⟨z, h1, h2, h3⟩ := h.seed
    exact ⟨z, h1, h2, (hc 2).trans h3⟩
  · rcases h0.2.2 with e' | ⟨b', off', e', hb', -⟩
    · exact absurd e' hx
    · rw [e'] at e
      simp only [Option.some.injEq, Addr.mk.injEq, and_true] at e
      exact hl b (by omega)

theorem l01PickO_any (S lo n : Nat) (A : Option Addr) (c : Nat) (xs : List Int) (v : Value) (w : World) (h : SrcAt w S A c xs) (ho : RowI lo n v w) (hn : 0 < n) (hm : n ≤ 9223372036854775807) (hS : S < lo) :
    Calls Try.prog 55 #[.pointer (some ⟨S, 0, none⟩), v] w fun e w' => (∃ x : Int, e = .returned (.int .i64 x)) ∧ SrcAt w' S A c xs ∧ Chg S (S + 1) w w' := by
  obtain ⟨b, ys, rfl, rfl, h3, h4, h5⟩ := ho
  refine (l01Pick_any S A c xs b 0 ys.length ys w h ⟨Nat.le_refl _, hm, .inr ⟨b, 0, rfl, h4, fun i x hx => by simpa using h5 i x hx⟩⟩ hn (by omega)).mono ?_
  rintro e w' ⟨⟨x, he, -⟩, hs, hc⟩
  exact ⟨⟨x, he⟩, hs, hc⟩

set_option maxRecDepth 100000 in
set_option maxHeartbeats 8000000 in
theorem drawLevelAt_any (A : Option Addr) (c : Nat) (xs : List Int) (w : World) (h : BytesAt w A c xs) :
    Calls Try.prog 25 #[.slice A xs.length c] w fun e w' => (∃ A1 c1 A2 c2 ts ls t, e = .returned (.tuple #[profV A1 (List.length ts) c1 A2 (List.length ls) c2, .int .i64 t]) ∧ ResP w' w.heap.size w'.heap.size A1 c1 A2 c2 ts ls ∧ 1 ≤ ts.length ∧ ts.length ≤ 9 ∧ 1 ≤ ls.length ∧ ls.length ≤ 9) ∧ Below w.heap.size w w' := by
  have H := Lib.hid h; clear h
  go_enter Try.func25, Try.ntmps25
  go_wp2_with fail
  refine (l01From_any A c xs _ (H.out.below (B := w.heap.size) (by go_grown) (Nat.le_refl _))).mono ?_
  rintro e w3 ⟨rfl, s3, hb3⟩
  obtain ⟨T3, z3, q3, f3, x3, y3⟩ := lkeep (w := w) [w.heap.size] (by first | (simp; done) | (simp; omega)) (by go_grown) hb3
  simp only [World.size_alloc] at s3
  have hS3 := s3.lt
  have SS := Lib.hid s3; have BB := Lib.hid T3; clear s3 T3 hb3
  go_wp2_with fail
  refine (l20Draw_any (w.heap.size + 1) A c xs _ SS.out).mono ?_
  rintro e w4 ⟨⟨A1, c1, A2, c2, ts, ls, rfl, rp, h1, h2, h3, h4⟩, s4, ch4⟩
  have RP := Lib.hid rp; have SS := Lib.hid s4
  have BB := Lib.hid (BB.out.trans (ch4.below (by omega) (by omega)))
  obtain ⟨z4, q4, f4, x4, y4⟩ := ckeepB [w.heap.size] (by first | (simp; done) | (simp; omega)) ch4
  have hS4 := s4.lt
  clear rp s4 ch4
  obtain ⟨b1, o1, rfl, hb1, dx⟩ := RP.out.at.1.spd (by omega)
  obtain ⟨p1, p2, -⟩ := RP.out.1.pin (by intro e; rw [e] at h1; simp at h1)
  go_upto_region 3 with fail
  have ne1 : w.heap.size ≠ w4.heap.size := by omega
  have ne2 : w4.heap.size ≠ w.heap.size := by omega
  have ne3 : b1 ≠ w4.heap.size := by omega
  have ne4 : b1 ≠ w.heap.size := by omega
  have ne5 : b1 ≠ w.heap.size + 1 := by omega
  refine genS (S := fun w' => Below w.heap.size w w' ∧ w.heap.size < w'.heap.size ∧ w4.heap.size < w'.heap.size ∧ b1 < w'.heap.size ∧ w'.cell? ⟨w.heap.size, 0, none⟩ = some (.slice none 0 0) ∧ w'.cell? ⟨w.heap.size, 1, none⟩ = some (.slice none 0 0) ∧ w'.cell? ⟨w4.heap.size, 0, none⟩ = some (.slice (some ⟨b1, o1, none⟩) (List.length ts) c1) ∧ w'.cell? ⟨w4.heap.size, 1, none⟩ = some (.slice A2 (List.length ls) c2) ∧ (∀ o, w'.frozen? ⟨w.heap.size, o, none⟩ = false) ∧ SrcAt w' (w.heap.size + 1) A c xs ∧ ResP w' w3.heap.size w4.heap.size (some ⟨b1, o1, none⟩) c1 A2 c2 ts ls ∧ (∀ k : Nat, k < ts.length → w'.cell? ⟨b1, o1 + k, none⟩ = some (.int .i64 (spd ts k)))) ⟨(by first | exact BB.out | (have hb_ := BB.out; go_grown; done) | (have hb_ := BB.out; exact bdrewN (by go_grown) _)), by first | omega | (simp; done) | (simp; omega), by first | omega | (simp; done) | (simp; omega), by first | omega | (simp; done) | (simp; omega), by simp [*, go_sem], by simp [*, go_sem], by simp [*, go_sem], by simp [*, go_sem], fun o => by simp [*, go_sem], SS.out.keepS (by repeat' (first | with_reducible exact Keep.refl _ _ _ | with_reducible refine Keep.setB ?_ ?_ _ | with_reducible refine Keep.alloc ?_ ?_ _ | with_reducible refine Keep.drew ?_ | omega | (simp; done) | (simp; omega))), RP.out.kept (by repeat' (first | with_reducible exact Keep.refl _ _ _ | with_reducible refine Keep.setB ?_ ?_ _ | with_reducible refine Keep.alloc ?_ ?_ _ | with_reducible refine Keep.drew ?_ | omega | (simp; done) | (simp; omega))), fun k hk => by have := dx k hk; simp [*, go_sem]⟩ ?_
  clear q3 f3 x3 y3 q4 f4 x4 y4 dx
  rintro w5 ⟨bb, ltR, ltG, ltE, r0, r1, g0, g1, fR, ss, rp, dx⟩
  have BB := Lib.hid bb; have SS := Lib.hid ss; have RP := Lib.hid rp; have DX := Lib.hid dx
  have d0 := dx 0 (by omega)
  have d1 := dx (ts.length - 1) (by omega)
  have d0 : w5.cell? ⟨b1, o1, none⟩ = some (.int .i64 (spd ts 0)) := by simpa using d0
  obtain ⟨vf, hvf⟩ : ∃ v, spd ts 0 = v := ⟨_, rfl⟩
  obtain ⟨vl, hvl⟩ : ∃ v, spd ts ((ts.length - 1 : Nat) : Int) = v := ⟨_, rfl⟩
  rw [hvf] at d0
  rw [hvl] at d1
  clear bb ss rp dx hvf hvl
  have i0 : (0 : Int) ≤ (ts.length : Int) - 1 := by omega
  have i1 : ((ts.length : Int) - 1).toNat = ts.length - 1 := by omega
  have i2 : (ts.length : Int) - 1 < ts.length := by omega
  have i3 : (1 : Int) ≤ ts.length := by omega
  have i4 : 0 < ts.length := by omega
  have i5 : (0 : Int) < ts.length := by omega
  have W0 : IntKind.i64.wrap ((ts.length : Int) - 1) = (ts.length : Int) - 1 := IntWalk.i64_in _ (by omega)
  go_quiet (fail)
  clear W0 i0 i1 i2 i3 d0 d1
  go_wp2_with fail
  obtain ⟨Inv, iout, imk⟩ : ∃ I : World → Prop, (∀ w', I w' → Below w.heap.size w w' ∧ (w4.heap.size < w'.heap.size ∧ w.heap.size + 2 ≤ w'.heap.size) ∧ (∃ v0 v1, w'.cell? ⟨w.heap.size, 0, none⟩ = some v0 ∧ w'.cell? ⟨w.heap.size, 1, none⟩ = some v1) ∧ w'.cell? ⟨w4.heap.size, 0, none⟩ = some (.slice (some ⟨b1, o1, none⟩) (List.length ts) c1) ∧ w'.cell? ⟨w4.heap.size, 1, none⟩ = some (.slice A2 (List.length ls) c2) ∧ SrcAt w' (w.heap.size + 1) A c xs ∧ (∀ o, w'.frozen? ⟨w.heap.size, o, none⟩ = false) ∧ ResP w' w3.heap.size w4.heap.size (some ⟨b1, o1, none⟩) c1 A2 c2 ts ls ∧ (∀ k : Nat, k < ts.length → w'.cell? ⟨b1, o1 + k, none⟩ = some (.int .i64 (spd ts k)))) ∧ (∀ w', Below w.heap.size w w' ∧ (w4.heap.size < w'.heap.size ∧ w.heap.size + 2 ≤ w'.heap.size) ∧ (∃ v0 v1, w'.cell? ⟨w.heap.size, 0, none⟩ = some v0 ∧ w'.cell? ⟨w.heap.size, 1, none⟩ = some v1) ∧ w'.cell? ⟨w4.heap.size, 0, none⟩ = some (.slice (some ⟨b1, o1, none⟩) (List.length ts) c1) ∧ w'.cell? ⟨w4.heap.size, 1, none⟩ = some (.slice A2 (List.length ls) c2) ∧ SrcAt w' (w.heap.size + 1) A c xs ∧ (∀ o, w'.frozen? ⟨w.heap.size, o, none⟩ = false) ∧ ResP w' w3.heap.size w4.heap.size (some ⟨b1, o1, none⟩) c1 A2 c2 ts ls ∧ (∀ k : Nat, k < ts.length → w'.cell? ⟨b1, o1 + k, none⟩ = some (.int .i64 (spd ts k))) → I w') := ⟨fun w' => Below w.heap.size w w' ∧ (w4.heap.size < w'.heap.size ∧ w.heap.size + 2 ≤ w'.heap.size) ∧ (∃ v0 v1, w'.cell? ⟨w.heap.size, 0, none⟩ = some v0 ∧ w'.cell? ⟨w.heap.size, 1, none⟩ = some v1) ∧ w'.cell? ⟨w4.heap.size, 0, none⟩ = some (.slice (some ⟨b1, o1, none⟩) (List.length ts) c1) ∧ w'.cell? ⟨w4.heap.size, 1, none⟩ = some (.slice A2 (List.length ls) c2) ∧ SrcAt w' (w.heap.size + 1) A c xs ∧ (∀ o, w'.frozen? ⟨w.heap.size, o, none⟩ = false) ∧ ResP w' w3.heap.size w4.heap.size (some ⟨b1, o1, none⟩) c1 A2 c2 ts ls ∧ (∀ k : Nat, k < ts.length → w'.cell? ⟨b1, o1 + k, none⟩ = some (.int .i64 (spd ts k))), fun _ h => h, fun _ h => h⟩
  obtain ⟨Fin_, fout, fmk⟩ : ∃ I : World → Prop, (∀ w', I w' → (w'.cell? ⟨w.heap.size, 0, none⟩ = some (.slice (some ⟨b1, o1, none⟩) ts.length c1) ∧ w'.cell? ⟨w.heap.size, 1, none⟩ = some (.slice A2 ls.length c2))) ∧ (∀ w', (w'.cell? ⟨w.heap.size, 0, none⟩ = some (.slice (some ⟨b1, o1, none⟩) ts.length c1) ∧ w'.cell? ⟨w.heap.size, 1, none⟩ = some (.slice A2 ls.length c2)) → I w') := ⟨fun w' => (w'.cell? ⟨w.heap.size, 0, none⟩ = some (.slice (some ⟨b1, o1, none⟩) ts.length c1) ∧ w'.cell? ⟨w.heap.size, 1, none⟩ = some (.slice A2 ls.length c2)), fun _ h => h, fun _ h => h⟩
  have HIO := Lib.hid iout; have IM := Lib.hid imk; clear iout imk
  have FO := Lib.hid fout; have FM := Lib.hid fmk; clear fout fmk
  obtain ⟨Rel, rout, rmk⟩ : ∃ R : World → World → Prop, (∀ u v, R u v → (fun u v => ChgB (w.heap.size) (w.heap.size + 2) u v ∧ (Fin_ u → Fin_ v)) u v) ∧ (∀ u v, (fun u v => ChgB (w.heap.size) (w.heap.size + 2) u v ∧ (Fin_ u → Fin_ v)) u v → R u v) := ⟨fun u v => ChgB (w.heap.size) (w.heap.size + 2) u v ∧ (Fin_ u → Fin_ v), fun _ _ h => h, fun _ _ h => h⟩
  have RO := Lib.hid rout; have RM := Lib.hid rmk; clear rout rmk
  have HG := Lib.hid (show ∀ u v, Inv u → ChgB (w.heap.size) (w.heap.size + 2) u v → Below w.heap.size u v → (∃ v0 v1, v.cell? ⟨w.heap.size, 0, none⟩ = some v0 ∧ v.cell? ⟨w.heap.size, 1, none⟩ = some v1) → SrcAt v (w.heap.size + 1) A c xs → (∀ o, v.frozen? ⟨w.heap.size, o, none⟩ = false) → Inv v by
    intro u v hi hc hb hr hs hf
    obtain ⟨b0, ⟨l0, l1⟩, -, g0, g1, -, -, rp, dx⟩ := HIO.out u hi
    have kc : ∀ b o, w3.heap.size ≤ b → b < w4.heap.size + 1 → v.cell? ⟨b, o, none⟩ = u.cell? ⟨b, o, none⟩ := fun b o h1 h2 => World.cell?_of_block (w := u) (hc.block b (by omega) (.inr (by omega)))
    have hz := hc.size
    exact IM.out v ⟨b0.trans hb, ⟨by omega, by omega⟩, hr, (kc _ _ (by omega) (by omega)).trans g0, (kc _ _ (by omega) (by omega)).trans g1, hs, hf, rp.chgB hc (.inr (by omega)), fun k hk => (kc _ _ (by omega) (by omega)).trans (dx k hk)⟩)
  have HC := Lib.hid (show ∀ u v, Inv u → SrcAt v (w.heap.size + 1) A c xs → Chg (w.heap.size + 1) (w.heap.size + 1 + 1) u v → Inv v ∧ Rel u v by
    intro u v hi hs hc
    obtain ⟨b0, -, ⟨v0, v1, r0, r1⟩, g0, g1, -, fR, rp, dx⟩ := HIO.out u hi
    have hcb : ChgB (w.heap.size) (w.heap.size + 2) u v := hc.toB.mono (by omega) (by omega)
    exact ⟨HG.out u v hi hcb (hc.below (by omega)) ⟨v0, v1, (hc.far_ (by omega)).trans r0, (hc.far_ (by omega)).trans r1⟩ hs (fun o => (hc.farF (by omega)).trans (fR o)), RM.out u v ⟨hcb, fun hf => FM.out v ⟨(hc.far_ (by omega)).trans (FO.out u hf).1, (hc.far_ (by omega)).trans (FO.out u hf).2⟩⟩⟩)
  have HA := Lib.hid (show ∀ u o, Inv u → Inv (u.alloc o) ∧ Rel u (u.alloc o) by
    intro u o hi
    obtain ⟨b0, ⟨l0, l1⟩, ⟨v0, v1, r0, r1⟩, g0, g1, ss, fR, rp, dx⟩ := HIO.out u hi
    have hcb : ChgB (w.heap.size) (w.heap.size + 2) u (u.alloc o) := (ChgB.refl _ _ _).alloc o
    have hbl : Below u.heap.size u (u.alloc o) := (Below.refl _ _).alloc (Nat.le_refl _) o
    have kc : ∀ o', (u.alloc o).cell? ⟨w.heap.size, o', none⟩ = u.cell? ⟨w.heap.size, o', none⟩ := fun o' => World.cell?_of_block (w := u) (hbl.block _ (by show w.heap.size < _; omega))
    exact ⟨HG.out u _ hi hcb ((Below.refl _ _).alloc (by omega) o) ⟨v0, v1, (kc _).trans r0, (kc _).trans r1⟩ (ss.below hbl (by omega)) (fun o' => (World.frozen?_of_block (w := u) (hbl.block _ (by show w.heap.size < _; omega))).trans (fR o')), RM.out u _ ⟨hcb, fun hf => FM.out _ ⟨(kc _).trans (FO.out u hf).1, (kc _).trans (FO.out u hf).2⟩⟩⟩)
  have HF := Lib.hid (show ∀ u, Inv u → Fin_ (((u.setCell ⟨w.heap.size, 0, none⟩ (.slice (some ⟨b1, o1, none⟩) ts.length c1))).setCell ⟨w.heap.size, 1, none⟩ (.slice A2 ls.length c2)) by
    intro u hi
    obtain ⟨b0, ⟨l0, l1⟩, ⟨v0, v1, r0, r1⟩, g0, g1, ss, fR, rp, dx⟩ := HIO.out u hi
    exact FM.out _ ⟨by simp [*, go_sem], by simp [*, go_sem]⟩)
  have HST2 := HF
  have HST := Lib.hid (show ∀ u, Inv u → Inv (((u.setCell ⟨w.heap.size, 0, none⟩ (.slice (some ⟨b1, o1, none⟩) ts.length c1))).setCell ⟨w.heap.size, 1, none⟩ (.slice A2 ls.length c2)) ∧ Rel u (((u.setCell ⟨w.heap.size, 0, none⟩ (.slice (some ⟨b1, o1, none⟩) ts.length c1))).setCell ⟨w.heap.size, 1, none⟩ (.slice A2 ls.length c2)) by
    intro u hi
    have hff := HF.out u hi
    obtain ⟨b0, ⟨l0, l1⟩, ⟨v0, v1, r0, r1⟩, g0, g1, ss, fR, rp, dx⟩ := HIO.out u hi
    have hch : Chg w.heap.size (w.heap.size + 1) u (((u.setCell ⟨w.heap.size, 0, none⟩ (.slice (some ⟨b1, o1, none⟩) ts.length c1))).setCell ⟨w.heap.size, 1, none⟩ (.slice A2 ls.length c2)) := ((Chg.refl _ _ _).set (a := ⟨w.heap.size, 0, none⟩) (Nat.le_refl _) (Nat.lt_succ_self _) _).set (a := ⟨w.heap.size, 1, none⟩) (Nat.le_refl _) (Nat.lt_succ_self _) _
    have hcb := (hch.toB.mono (lo' := w.heap.size) (hi' := w.heap.size + 2) (by omega) (by omega))
    exact ⟨HG.out u _ hi hcb (hch.below (by omega)) ⟨_, _, (FO.out _ hff).1, (FO.out _ hff).2⟩ (ss.keepR H.out (by rw [hch.size]; exact Nat.le_refl _) (hch.block _ (by omega)) (fun b hb => hch.block b (by omega))) (fun o => by simp [*, go_sem]), RM.out u _ ⟨hcb, fun _ => hff⟩⟩)
  refine wp_region_each (B := ?B) (Inv := Inv) (R := Rel) (T := fun (j : Nat) (v : Value) (w' : World) => match j with
      | 0 => v = profV (some ⟨b1, o1, none⟩) ts.length c1 A2 ls.length c2
      | 1 => v = .pointer (some ⟨w.heap.size + 1, 0, none⟩)
      | 2 => ∃ x : Int, v = .int .i64 x
      | 3 => v = .pointer (some ⟨w.heap.size + 1, 0, none⟩)
      | 4 => ∃ x : Int, v = .int .i64 x
      | 5 => ∃ x : Int, v = .int .i64 x
      | 6 => ∃ x : Int, v = .int .i64 x
      | 7 => ∃ x : Int, v = .int .i64 x
      | 8 => ∃ x : Int, v = .int .i64 x
      | 9 => ∃ x : Int, v = .int .i64 x
      | 10 => ∃ x : Int, v = .int .i64 x
      | 11 => v = .pointer (some ⟨w4.heap.size, 0, none⟩)
      | 12 => v = .slice (some ⟨b1, o1, none⟩) ts.length c1
      | 13 => v = .pointer (some ⟨w.heap.size + 1, 0, none⟩)
      | 14 => v = .pointer (some ⟨w4.heap.size, 0, none⟩)
      | 15 => v = .slice (some ⟨b1, o1, none⟩) ts.length c1
      | 16 => v = .int .i64 (ts.length : Int)
      | 17 => ∃ i : Nat, i < ts.length ∧ v = .int .i64 i
      | 18 => ∃ i : Nat, i < ts.length ∧ v = .pointer (some ⟨b1, o1 + i, none⟩)
      | 19 => ∃ x : Int, v = .int .i64 x
      | 20 => ∃ x : Int, v = .int .i64 x
      | 21 => v = .pointer (some ⟨w.heap.size + 1, 0, none⟩)
      | 22 => ∃ x : Int, v = .int .i64 x
      | 23 => ∃ x : Int, v = .int .i64 x
      | 24 => ∃ x : Int, v = .int .i64 x
      | 25 => ∃ x : Int, v = .int .i64 x
      | 26 => ∃ x : Int, v = .int .i64 x
      | 27 => ∃ x : Int, v = .int .i64 x
      | 28 => ∃ x : Int, v = .int .i64 x
      | 29 => v = .pointer (some ⟨w.heap.size + 1, 0, none⟩)
      | 30 => ∃ x : Int, v = .int .i64 x
      | 31 => ∃ x : Int, v = .int .i64 x
      | 32 => ∃ x : Int, v = .int .i64 x
      | 33 => ∃ x : Int, v = .int .i64 x
      | 34 => RowI (w.heap.size + 2) 4 v w'
      | 35 => ∃ x : Int, v = .int .i64 x
      | 36 => RowI (w.heap.size + 2) 4 v w'
      | 37 => ∃ x : Int, v = .int .i64 x
      | 38 => Fin_ w'
      | 39 => ∃ x : Int, v = .int .i64 x
      | _ => True) (by kernel_rfl) (fun t => ?hB) (by kernel_rfl) (by kernel_rfl) (by kernel_rfl) ?hT ?hU ?hI ?hE ?hQ
  case hB =>
    simp only [putsFrom, Act.put, List.setIfInBounds_toArray, List.set_cons_zero, List.set_cons_succ, Nat.reduceAdd, Nat.zero_add]
    exact rfl
  case hT =>
    intro j v u w' hr
    have hr := (RO.out u w' hr)
    split
    · exact fun h => h
    · exact fun h => h
    · exact fun h => h
    · exact fun h => h
    · exact fun h => h
    · exact fun h => h
    · exact fun h => h
    · exact fun h => h
    · exact fun h => h
    · exact fun h => h
    · exact fun h => h
    · exact fun h => h
    · exact fun h => h
    · exact fun h => h
    · exact fun h => h
    · exact fun h => h
    · exact fun h => h
    · exact fun h => h
    · exact fun h => h
    · exact fun h => h
    · exact fun h => h
    · exact fun h => h
    · exact fun h => h
    · exact fun h => h
    · exact fun h => h
    · exact fun h => h
    · exact fun h => h
    · exact fun h => h
    · exact fun h => h
    · exact fun h => h
    · exact fun h => h
    · exact fun h => h
    · exact fun h => h
    · exact fun h => h
    · exact fun h => h.chgB (hr.1) (by omega)
    · exact fun h => h
    · exact fun h => h.chgB (hr.1) (by omega)
    · exact fun h => h
    · exact hr.2
    · exact fun h => h
    · exact fun h => h
  case hU => exact fun w' _ => RM.out _ _ ⟨ChgB.refl _ _ _, fun h => h⟩
  case hI =>
    exact IM.out _ ⟨(bdrewN BB.out _).drew, ⟨by simpa using ltG, by simp; omega⟩, ⟨_, _, r0, r1⟩, g0, g1, SS.out.of_block (by simp) rfl (fun _ _ => rfl), fR, RP.out.kept ⟨by simp, fun _ _ _ => rfl⟩, DX.out⟩
  case hE =>
    refine EachOps.cons (fun t w0 hI hd _ K hK => ?_) ?_
    · dsimp only at hK ⊢
      have HI := Lib.hid hI; clear hI
      clear hd
      simp only [Act.put, List.setIfInBounds_toArray, List.set_cons_zero, List.set_cons_succ, Nat.reduceAdd, Nat.zero_add] at hK
      have HK := Lib.hid hK; clear hK
      obtain ⟨-, -, -, g0, g1, -⟩ := (HIO.out w0 HI.out)
      go_simp
      exact HK.out _ _ HI.out (RM.out _ _ ⟨ChgB.refl _ _ _, fun h => h⟩) rfl
    refine EachOps.cons (fun t w0 hI hd _ K hK => ?_) ?_
    · dsimp only at hK ⊢
      have HI := Lib.hid hI; clear hI
      clear hd
      simp only [Act.put, List.setIfInBounds_toArray, List.set_cons_zero, List.set_cons_succ, Nat.reduceAdd, Nat.zero_add] at hK
      have HK := Lib.hid hK; clear hK
      go_simp
      exact HK.out _ _ HI.out (RM.out _ _ ⟨ChgB.refl _ _ _, fun h => h⟩) rfl
    refine EachOps.cons (fun t w0 hI hd _ K hK => ?_) ?_
    · dsimp only at hK ⊢
      have HI := Lib.hid hI; clear hI
      clear hd
      simp only [Act.put, List.setIfInBounds_toArray, List.set_cons_zero, List.set_cons_succ, Nat.reduceAdd, Nat.zero_add] at hK
      have HK := Lib.hid hK; clear hK
      go_simp
      exact HK.out _ _ HI.out (RM.out _ _ ⟨ChgB.refl _ _ _, fun h => h⟩) ⟨_, rfl⟩
    refine EachOps.cons (fun t w0 hI hd _ K hK => ?_) ?_
    · dsimp only at hK ⊢
      have HI := Lib.hid hI; clear hI
      clear hd
      simp only [Act.put, List.setIfInBounds_toArray, List.set_cons_zero, List.set_cons_succ, Nat.reduceAdd, Nat.zero_add] at hK
      have HK := Lib.hid hK; clear hK
      go_simp
      exact HK.out _ _ HI.out (RM.out _ _ ⟨ChgB.refl _ _ _, fun h => h⟩) rfl
    refine EachOps.cons (fun t w0 hI hd _ K hK => ?_) ?_
    · dsimp only at hK ⊢
      have HI := Lib.hid hI; clear hI
      clear hd
      simp only [Act.put, List.setIfInBounds_toArray, List.set_cons_zero, List.set_cons_succ, Nat.reduceAdd, Nat.zero_add] at hK
      have HK := Lib.hid hK; clear hK
      go_simp
      exact HK.out _ _ HI.out (RM.out _ _ ⟨ChgB.refl _ _ _, fun h => h⟩) ⟨_, rfl⟩
    refine EachOps.cons (fun t w0 hI hd _ K hK => ?_) ?_
    · dsimp only at hK ⊢
      have HI := Lib.hid hI; clear hI
      clear hd
      simp only [Act.put, List.setIfInBounds_toArray, List.set_cons_zero, List.set_cons_succ, Nat.reduceAdd, Nat.zero_add] at hK
      have HK := Lib.hid hK; clear hK
      go_simp
      exact HK.out _ _ HI.out (RM.out _ _ ⟨ChgB.refl _ _ _, fun h => h⟩) ⟨_, rfl⟩
    refine EachOps.cons (fun t w0 hI hd _ K hK => ?_) ?_
    · dsimp only at hK ⊢
      have HI := Lib.hid hI; clear hI
      obtain ⟨x4, k4⟩ : ∃ x : Int, t 4 = .int .i64 x := hd 4 (by kernel_rfl)
      obtain ⟨x5, k5⟩ : ∃ x : Int, t 5 = .int .i64 x := hd 5 (by kernel_rfl)
      clear hd
      simp only [Act.put, List.setIfInBounds_toArray, List.set_cons_zero, List.set_cons_succ, Nat.reduceAdd, Nat.zero_add, k4, k5] at hK
      have HK := Lib.hid hK; clear hK
      go_simp
      exact HK.out _ _ HI.out (RM.out _ _ ⟨ChgB.refl _ _ _, fun h => h⟩) ⟨_, rfl⟩
    refine EachOps.cons (fun t w0 hI hd _ K hK => ?_) ?_
    · dsimp only at hK ⊢
      have HI := Lib.hid hI; clear hI
      obtain ⟨x6, k6⟩ : ∃ x : Int, t 6 = .int .i64 x := hd 6 (by kernel_rfl)
      clear hd
      simp only [Act.put, List.setIfInBounds_toArray, List.set_cons_zero, List.set_cons_succ, Nat.reduceAdd, Nat.zero_add, k6] at hK
      have HK := Lib.hid hK; clear hK
      go_simp
      exact HK.out _ _ HI.out (RM.out _ _ ⟨ChgB.refl _ _ _, fun h => h⟩) ⟨_, rfl⟩
    refine EachOps.cons (fun t w0 hI hd _ K hK => ?_) ?_
    · dsimp only at hK ⊢
      have HI := Lib.hid hI; clear hI
      obtain ⟨x7, k7⟩ : ∃ x : Int, t 7 = .int .i64 x := hd 7 (by kernel_rfl)
      clear hd
      simp only [Act.put, List.setIfInBounds_toArray, List.set_cons_zero, List.set_cons_succ, Nat.reduceAdd, Nat.zero_add, k7] at hK
      have HK := Lib.hid hK; clear hK
      go_simp
      exact HK.out _ _ HI.out (RM.out _ _ ⟨ChgB.refl _ _ _, fun h => h⟩) ⟨_, rfl⟩
    refine EachOps.cons (fun t w0 hI hd _ K hK => ?_) ?_
    · dsimp only at hK ⊢
      have HI := Lib.hid hI; clear hI
      have k3 : t 3 = .pointer (some ⟨w.heap.size + 1, 0, none⟩) := hd 3 (by kernel_rfl)
      obtain ⟨x8, k8⟩ : ∃ x : Int, t 8 = .int .i64 x := hd 8 (by kernel_rfl)
      clear hd
      simp only [Act.put, List.setIfInBounds_toArray, List.set_cons_zero, List.set_cons_succ, Nat.reduceAdd, Nat.zero_add, k3, k8] at hK
      have HK := Lib.hid hK; clear hK
      go_simp
      go_at_call 44
      have PP := Lib.hid (HIO.out w0 HI.out)
      refine (l01Next_any (w.heap.size + 1) A c xs _ _ (PP.out.2.2.2.2.2.1)).mono ?_
      rintro e w1 ⟨⟨n1, rfl, n0, n2⟩, s1, ch⟩
      (try dsimp only)
      exact HK.out _ _ (HC.out w0 w1 HI.out s1 ch).1 (HC.out w0 w1 HI.out s1 ch).2 ⟨n1, rfl⟩
    refine EachOps.cons (fun t w0 hI hd _ K hK => ?_) ?_
    · dsimp only at hK ⊢
      have HI := Lib.hid hI; clear hI
      obtain ⟨x2, k2⟩ : ∃ x : Int, t 2 = .int .i64 x := hd 2 (by kernel_rfl)
      obtain ⟨x9, k9⟩ : ∃ x : Int, t 9 = .int .i64 x := hd 9 (by kernel_rfl)
      clear hd
      simp only [Act.put, List.setIfInBounds_toArray, List.set_cons_zero, List.set_cons_succ, Nat.reduceAdd, Nat.zero_add, k2, k9] at hK
      have HK := Lib.hid hK; clear hK
      go_simp
      exact HK.out _ _ HI.out (RM.out _ _ ⟨ChgB.refl _ _ _, fun h => h⟩) ⟨_, rfl⟩
    refine EachOps.cons (fun t w0 hI hd _ K hK => ?_) ?_
    · dsimp only at hK ⊢
      have HI := Lib.hid hI; clear hI
      clear hd
      simp only [Act.put, List.setIfInBounds_toArray, List.set_cons_zero, List.set_cons_succ, Nat.reduceAdd, Nat.zero_add] at hK
      have HK := Lib.hid hK; clear hK
      go_simp
      exact HK.out _ _ HI.out (RM.out _ _ ⟨ChgB.refl _ _ _, fun h => h⟩) rfl
    refine EachOps.cons (fun t w0 hI hd _ K hK => ?_) ?_
    · dsimp only at hK ⊢
      have HI := Lib.hid hI; clear hI
      have k11 : t 11 = .pointer (some ⟨w4.heap.size, 0, none⟩) := hd 11 (by kernel_rfl)
      clear hd
      simp only [Act.put, List.setIfInBounds_toArray, List.set_cons_zero, List.set_cons_succ, Nat.reduceAdd, Nat.zero_add, k11] at hK
      have HK := Lib.hid hK; clear hK
      obtain ⟨-, -, -, g0, g1, -⟩ := (HIO.out w0 HI.out)
      go_simp
      exact HK.out _ _ HI.out (RM.out _ _ ⟨ChgB.refl _ _ _, fun h => h⟩) rfl
    refine EachOps.cons (fun t w0 hI hd _ K hK => ?_) ?_
    · dsimp only at hK ⊢
      have HI := Lib.hid hI; clear hI
      clear hd
      simp only [Act.put, List.setIfInBounds_toArray, List.set_cons_zero, List.set_cons_succ, Nat.reduceAdd, Nat.zero_add] at hK
      have HK := Lib.hid hK; clear hK
      go_simp
      exact HK.out _ _ HI.out (RM.out _ _ ⟨ChgB.refl _ _ _, fun h => h⟩) rfl
    refine EachOps.cons (fun t w0 hI hd _ K hK => ?_) ?_
    · dsimp only at hK ⊢
      have HI := Lib.hid hI; clear hI
      clear hd
      simp only [Act.put, List.setIfInBounds_toArray, List.set_cons_zero, List.set_cons_succ, Nat.reduceAdd, Nat.zero_add] at hK
      have HK := Lib.hid hK; clear hK
      go_simp
      exact HK.out _ _ HI.out (RM.out _ _ ⟨ChgB.refl _ _ _, fun h => h⟩) rfl
    refine EachOps.cons (fun t w0 hI hd _ K hK => ?_) ?_
    · dsimp only at hK ⊢
      have HI := Lib.hid hI; clear hI
      have k14 : t 14 = .pointer (some ⟨w4.heap.size, 0, none⟩) := hd 14 (by kernel_rfl)
      clear hd
      simp only [Act.put, List.setIfInBounds_toArray, List.set_cons_zero, List.set_cons_succ, Nat.reduceAdd, Nat.zero_add, k14] at hK
      have HK := Lib.hid hK; clear hK
      obtain ⟨-, -, -, g0, g1, -⟩ := (HIO.out w0 HI.out)
      go_simp
      exact HK.out _ _ HI.out (RM.out _ _ ⟨ChgB.refl _ _ _, fun h => h⟩) rfl
    refine EachOps.cons (fun t w0 hI hd _ K hK => ?_) ?_
    · dsimp only at hK ⊢
      have HI := Lib.hid hI; clear hI
      have k15 : t 15 = .slice (some ⟨b1, o1, none⟩) ts.length c1 := hd 15 (by kernel_rfl)
      clear hd
      simp only [Act.put, List.setIfInBounds_toArray, List.set_cons_zero, List.set_cons_succ, Nat.reduceAdd, Nat.zero_add, k15] at hK
      have HK := Lib.hid hK; clear hK
      go_simp
      exact HK.out _ _ HI.out (RM.out _ _ ⟨ChgB.refl _ _ _, fun h => h⟩) rfl
    refine EachOps.cons (fun t w0 hI hd _ K hK => ?_) ?_
    · dsimp only at hK ⊢
      have HI := Lib.hid hI; clear hI
      have k13 : t 13 = .pointer (some ⟨w.heap.size + 1, 0, none⟩) := hd 13 (by kernel_rfl)
      have k16 : t 16 = .int .i64 (ts.length : Int) := hd 16 (by kernel_rfl)
      clear hd
      simp only [Act.put, List.setIfInBounds_toArray, List.set_cons_zero, List.set_cons_succ, Nat.reduceAdd, Nat.zero_add, k13, k16] at hK
      have HK := Lib.hid hK; clear hK
      go_simp
      go_at_call 44
      have PP := Lib.hid (HIO.out w0 HI.out)
      refine (l01Next_any (w.heap.size + 1) A c xs _ _ (PP.out.2.2.2.2.2.1)).mono ?_
      rintro e w1 ⟨⟨n1, rfl, n0, n2⟩, s1, ch⟩
      (try dsimp only)
      obtain ⟨i, rfl⟩ := Int.eq_ofNat_of_zero_le n0
      exact HK.out _ _ (HC.out w0 w1 HI.out s1 ch).1 (HC.out w0 w1 HI.out s1 ch).2 ⟨i, by omega, rfl⟩
    refine EachOps.cons (fun t w0 hI hd _ K hK => ?_) ?_
    · dsimp only at hK ⊢
      have HI := Lib.hid hI; clear hI
      have k12 : t 12 = .slice (some ⟨b1, o1, none⟩) ts.length c1 := hd 12 (by kernel_rfl)
      have k17 : ∃ i : Nat, i < ts.length ∧ (t 17) = .int .i64 i := hd 17 (by kernel_rfl)
      clear hd
      obtain ⟨i, i1, k17⟩ := k17
      simp only [Act.put, List.setIfInBounds_toArray, List.set_cons_zero, List.set_cons_succ, Nat.reduceAdd, Nat.zero_add, k17, k12] at hK
      have HK := Lib.hid hK; clear hK
      have i2 : (i : Int) < ts.length := by omega
      have i3 : (0 : Int) ≤ i := by omega
      go_simp
      exact HK.out _ _ HI.out (RM.out _ _ ⟨ChgB.refl _ _ _, fun h => h⟩) ⟨i, i1, rfl⟩
    refine EachOps.cons (fun t w0 hI hd _ K hK => ?_) ?_
    · dsimp only at hK ⊢
      have HI := Lib.hid hI; clear hI
      have k18 : ∃ i : Nat, i < ts.length ∧ (t 18) = .pointer (some ⟨b1, o1 + i, none⟩) := hd 18 (by kernel_rfl)
      clear hd
      obtain ⟨i, i1, k18⟩ := k18
      simp only [Act.put, List.setIfInBounds_toArray, List.set_cons_zero, List.set_cons_succ, Nat.reduceAdd, Nat.zero_add, k18] at hK
      have HK := Lib.hid hK; clear hK
      have cx := (HIO.out w0 HI.out).2.2.2.2.2.2.2.2 i i1
      go_simp
      exact HK.out _ _ HI.out (RM.out _ _ ⟨ChgB.refl _ _ _, fun h => h⟩) ⟨_, rfl⟩
    refine EachOps.cons (fun t w0 hI hd _ K hK => ?_) ?_
    · dsimp only at hK ⊢
      have HI := Lib.hid hI; clear hI
      clear hd
      simp only [Act.put, List.setIfInBounds_toArray, List.set_cons_zero, List.set_cons_succ, Nat.reduceAdd, Nat.zero_add] at hK
      have HK := Lib.hid hK; clear hK
      go_simp
      exact HK.out _ _ HI.out (RM.out _ _ ⟨ChgB.refl _ _ _, fun h => h⟩) ⟨_, rfl⟩
    refine EachOps.cons (fun t w0 hI hd _ K hK => ?_) ?_
    · dsimp only at hK ⊢
      have HI := Lib.hid hI; clear hI
      clear hd
      simp only [Act.put, List.setIfInBounds_toArray, List.set_cons_zero, List.set_cons_succ, Nat.reduceAdd, Nat.zero_add] at hK
      have HK := Lib.hid hK; clear hK
      go_simp
      exact HK.out _ _ HI.out (RM.out _ _ ⟨ChgB.refl _ _ _, fun h => h⟩) rfl
    refine EachOps.cons (fun t w0 hI hd _ K hK => ?_) ?_
    · dsimp only at hK ⊢
      have HI := Lib.hid hI; clear hI
      clear hd
      simp only [Act.put, List.setIfInBounds_toArray, List.set_cons_zero, List.set_cons_succ, Nat.reduceAdd, Nat.zero_add] at hK
      have HK := Lib.hid hK; clear hK
      go_simp
      exact HK.out _ _ HI.out (RM.out _ _ ⟨ChgB.refl _ _ _, fun h => h⟩) ⟨_, rfl⟩
    refine EachOps.cons (fun t w0 hI hd _ K hK => ?_) ?_
    · dsimp only at hK ⊢
      have HI := Lib.hid hI; clear hI
      clear hd
      simp only [Act.put, List.setIfInBounds_toArray, List.set_cons_zero, List.set_cons_succ, Nat.reduceAdd, Nat.zero_add] at hK
      have HK := Lib.hid hK; clear hK
      go_simp
      exact HK.out _ _ HI.out (RM.out _ _ ⟨ChgB.refl _ _ _, fun h => h⟩) ⟨_, rfl⟩
    refine EachOps.cons (fun t w0 hI hd _ K hK => ?_) ?_
    · dsimp only at hK ⊢
      have HI := Lib.hid hI; clear hI
      obtain ⟨x22, k22⟩ : ∃ x : Int, t 22 = .int .i64 x := hd 22 (by kernel_rfl)
      obtain ⟨x23, k23⟩ : ∃ x : Int, t 23 = .int .i64 x := hd 23 (by kernel_rfl)
      clear hd
      simp only [Act.put, List.setIfInBounds_toArray, List.set_cons_zero, List.set_cons_succ, Nat.reduceAdd, Nat.zero_add, k22, k23] at hK
      have HK := Lib.hid hK; clear hK
      go_simp
      exact HK.out _ _ HI.out (RM.out _ _ ⟨ChgB.refl _ _ _, fun h => h⟩) ⟨_, rfl⟩
    refine EachOps.cons (fun t w0 hI hd _ K hK => ?_) ?_
    · dsimp only at hK ⊢
      have HI := Lib.hid hI; clear hI
      obtain ⟨x24, k24⟩ : ∃ x : Int, t 24 = .int .i64 x := hd 24 (by kernel_rfl)
      clear hd
      simp only [Act.put, List.setIfInBounds_toArray, List.set_cons_zero, List.set_cons_succ, Nat.reduceAdd, Nat.zero_add, k24] at hK
      have HK := Lib.hid hK; clear hK
      go_simp
      exact HK.out _ _ HI.out (RM.out _ _ ⟨ChgB.refl _ _ _, fun h => h⟩) ⟨_, rfl⟩
    refine EachOps.cons (fun t w0 hI hd _ K hK => ?_) ?_
    · dsimp only at hK ⊢
      have HI := Lib.hid hI; clear hI
      obtain ⟨x25, k25⟩ : ∃ x : Int, t 25 = .int .i64 x := hd 25 (by kernel_rfl)
      clear hd
      simp only [Act.put, List.setIfInBounds_toArray, List.set_cons_zero, List.set_cons_succ, Nat.reduceAdd, Nat.zero_add, k25] at hK
      have HK := Lib.hid hK; clear hK
      go_simp
      exact HK.out _ _ HI.out (RM.out _ _ ⟨ChgB.refl _ _ _, fun h => h⟩) ⟨_, rfl⟩
    refine EachOps.cons (fun t w0 hI hd _ K hK => ?_) ?_
    · dsimp only at hK ⊢
      have HI := Lib.hid hI; clear hI
      have k21 : t 21 = .pointer (some ⟨w.heap.size + 1, 0, none⟩) := hd 21 (by kernel_rfl)
      obtain ⟨x26, k26⟩ : ∃ x : Int, t 26 = .int .i64 x := hd 26 (by kernel_rfl)
      clear hd
      simp only [Act.put, List.setIfInBounds_toArray, List.set_cons_zero, List.set_cons_succ, Nat.reduceAdd, Nat.zero_add, k21, k26] at hK
      have HK := Lib.hid hK; clear hK
      go_simp
      go_at_call 44
      have PP := Lib.hid (HIO.out w0 HI.out)
      refine (l01Next_any (w.heap.size + 1) A c xs _ _ (PP.out.2.2.2.2.2.1)).mono ?_
      rintro e w1 ⟨⟨n1, rfl, n0, n2⟩, s1, ch⟩
      (try dsimp only)
      exact HK.out _ _ (HC.out w0 w1 HI.out s1 ch).1 (HC.out w0 w1 HI.out s1 ch).2 ⟨n1, rfl⟩
    refine EachOps.cons (fun t w0 hI hd _ K hK => ?_) ?_
    · dsimp only at hK ⊢
      have HI := Lib.hid hI; clear hI
      obtain ⟨x20, k20⟩ : ∃ x : Int, t 20 = .int .i64 x := hd 20 (by kernel_rfl)
      obtain ⟨x27, k27⟩ : ∃ x : Int, t 27 = .int .i64 x := hd 27 (by kernel_rfl)
      clear hd
      simp only [Act.put, List.setIfInBounds_toArray, List.set_cons_zero, List.set_cons_succ, Nat.reduceAdd, Nat.zero_add, k20, k27] at hK
      have HK := Lib.hid hK; clear hK
      go_simp
      exact HK.out _ _ HI.out (RM.out _ _ ⟨ChgB.refl _ _ _, fun h => h⟩) ⟨_, rfl⟩
    refine EachOps.cons (fun t w0 hI hd _ K hK => ?_) ?_
    · dsimp only at hK ⊢
      have HI := Lib.hid hI; clear hI
      clear hd
      simp only [Act.put, List.setIfInBounds_toArray, List.set_cons_zero, List.set_cons_succ, Nat.reduceAdd, Nat.zero_add] at hK
      have HK := Lib.hid hK; clear hK
      go_simp
      exact HK.out _ _ HI.out (RM.out _ _ ⟨ChgB.refl _ _ _, fun h => h⟩) rfl
    refine EachOps.cons (fun t w0 hI hd _ K hK => ?_) ?_
    · dsimp only at hK ⊢
      have HI := Lib.hid hI; clear hI
      clear hd
      simp only [Act.put, List.setIfInBounds_toArray, List.set_cons_zero, List.set_cons_succ, Nat.reduceAdd, Nat.zero_add] at hK
      have HK := Lib.hid hK; clear hK
      go_simp
      exact HK.out _ _ HI.out (RM.out _ _ ⟨ChgB.refl _ _ _, fun h => h⟩) ⟨_, rfl⟩
    refine EachOps.cons (fun t w0 hI hd _ K hK => ?_) ?_
    · dsimp only at hK ⊢
      have HI := Lib.hid hI; clear hI
      obtain ⟨x30, k30⟩ : ∃ x : Int, t 30 = .int .i64 x := hd 30 (by kernel_rfl)
      clear hd
      simp only [Act.put, List.setIfInBounds_toArray, List.set_cons_zero, List.set_cons_succ, Nat.reduceAdd, Nat.zero_add, k30] at hK
      have HK := Lib.hid hK; clear hK
      go_simp
      exact HK.out _ _ HI.out (RM.out _ _ ⟨ChgB.refl _ _ _, fun h => h⟩) ⟨_, rfl⟩
    refine EachOps.cons (fun t w0 hI hd _ K hK => ?_) ?_
    · dsimp only at hK ⊢
      have HI := Lib.hid hI; clear hI
      clear hd
      simp only [Act.put, List.setIfInBounds_toArray, List.set_cons_zero, List.set_cons_succ, Nat.reduceAdd, Nat.zero_add] at hK
      have HK := Lib.hid hK; clear hK
      go_simp
      exact HK.out _ _ HI.out (RM.out _ _ ⟨ChgB.refl _ _ _, fun h => h⟩) ⟨_, rfl⟩
    refine EachOps.cons (fun t w0 hI hd _ K hK => ?_) ?_
    · dsimp only at hK ⊢
      have HI := Lib.hid hI; clear hI
      obtain ⟨x32, k32⟩ : ∃ x : Int, t 32 = .int .i64 x := hd 32 (by kernel_rfl)
      clear hd
      simp only [Act.put, List.setIfInBounds_toArray, List.set_cons_zero, List.set_cons_succ, Nat.reduceAdd, Nat.zero_add, k32] at hK
      have HK := Lib.hid hK; clear hK
      go_simp
      exact HK.out _ _ HI.out (RM.out _ _ ⟨ChgB.refl _ _ _, fun h => h⟩) ⟨_, rfl⟩
    refine EachOps.cons (fun t w0 hI hd _ K hK => ?_) ?_
    · dsimp only at hK ⊢
      have HI := Lib.hid hI; clear hI
      obtain ⟨x31, k31⟩ : ∃ x : Int, t 31 = .int .i64 x := hd 31 (by kernel_rfl)
      obtain ⟨x33, k33⟩ : ∃ x : Int, t 33 = .int .i64 x := hd 33 (by kernel_rfl)
      clear hd
      simp only [Act.put, List.setIfInBounds_toArray, List.set_cons_zero, List.set_cons_succ, Nat.reduceAdd, Nat.zero_add, k31, k33] at hK
      have HK := Lib.hid hK; clear hK
      go_simp
      exact HK.out _ _ (HA.out w0 _ HI.out).1 (HA.out w0 _ HI.out).2 ⟨_, [x31, x33, -1, 1000001], rfl, rfl, by have := (HIO.out w0 HI.out).2.1; omega, by simp, fun i x hx => by rcases i with _ | _ | _ | _ | i <;> simp at hx <;> subst hx <;> simp⟩
    refine EachOps.cons (fun t w0 hI hd _ K hK => ?_) ?_
    · dsimp only at hK ⊢
      have HI := Lib.hid hI; clear hI
      have k29 : t 29 = .pointer (some ⟨w.heap.size + 1, 0, none⟩) := hd 29 (by kernel_rfl)
      have k34 : RowI (w.heap.size + 2) 4 (t 34) w0 := hd 34 (by kernel_rfl)
      clear hd
      simp only [Act.put, List.setIfInBounds_toArray, List.set_cons_zero, List.set_cons_succ, Nat.reduceAdd, Nat.zero_add, k29] at hK
      have HK := Lib.hid hK; clear hK
      go_simp
      go_at_call 55
      have PP := Lib.hid (HIO.out w0 HI.out)
      refine (l01PickO_any (w.heap.size + 1) _ 4 A c xs _ _ (PP.out.2.2.2.2.2.1) k34 (by omega) (by omega) (by omega)).mono ?_
      rintro e w1 ⟨⟨n1, rfl⟩, s1, ch⟩
      (try dsimp only)
      exact HK.out _ _ (HC.out w0 w1 HI.out s1 ch).1 (HC.out w0 w1 HI.out s1 ch).2 ⟨n1, rfl⟩
    refine EachOps.cons (fun t w0 hI hd _ K hK => ?_) ?_
    · dsimp only at hK ⊢
      have HI := Lib.hid hI; clear hI
      obtain ⟨x10, k10⟩ : ∃ x : Int, t 10 = .int .i64 x := hd 10 (by kernel_rfl)
      obtain ⟨x19, k19⟩ : ∃ x : Int, t 19 = .int .i64 x := hd 19 (by kernel_rfl)
      obtain ⟨x28, k28⟩ : ∃ x : Int, t 28 = .int .i64 x := hd 28 (by kernel_rfl)
      obtain ⟨x35, k35⟩ : ∃ x : Int, t 35 = .int .i64 x := hd 35 (by kernel_rfl)
      clear hd
      simp only [Act.put, List.setIfInBounds_toArray, List.set_cons_zero, List.set_cons_succ, Nat.reduceAdd, Nat.zero_add, k10, k19, k28, k35] at hK
      have HK := Lib.hid hK; clear hK
      go_simp
      exact HK.out _ _ (HA.out w0 _ HI.out).1 (HA.out w0 _ HI.out).2 ⟨_, [x10, x19, x28, x35], rfl, rfl, by have := (HIO.out w0 HI.out).2.1; omega, by simp, fun i x hx => by rcases i with _ | _ | _ | _ | i <;> simp at hx <;> subst hx <;> simp⟩
    refine EachOps.cons (fun t w0 hI hd _ K hK => ?_) ?_
    · dsimp only at hK ⊢
      have HI := Lib.hid hI; clear hI
      have k1 : t 1 = .pointer (some ⟨w.heap.size + 1, 0, none⟩) := hd 1 (by kernel_rfl)
      have k36 : RowI (w.heap.size + 2) 4 (t 36) w0 := hd 36 (by kernel_rfl)
      clear hd
      simp only [Act.put, List.setIfInBounds_toArray, List.set_cons_zero, List.set_cons_succ, Nat.reduceAdd, Nat.zero_add, k1] at hK
      have HK := Lib.hid hK; clear hK
      go_simp
      go_at_call 55
      have PP := Lib.hid (HIO.out w0 HI.out)
      refine (l01PickO_any (w.heap.size + 1) _ 4 A c xs _ _ (PP.out.2.2.2.2.2.1) k36 (by omega) (by omega) (by omega)).mono ?_
      rintro e w1 ⟨⟨n1, rfl⟩, s1, ch⟩
      (try dsimp only)
      exact HK.out _ _ (HC.out w0 w1 HI.out s1 ch).1 (HC.out w0 w1 HI.out s1 ch).2 ⟨n1, rfl⟩
    refine EachOps.cons (fun t w0 hI hd _ K hK => ?_) ?_
    · dsimp only at hK ⊢
      have HI := Lib.hid hI; clear hI
      have k0 : t 0 = profV (some ⟨b1, o1, none⟩) ts.length c1 A2 ls.length c2 := hd 0 (by kernel_rfl)
      clear hd
      simp only [Act.put, List.setIfInBounds_toArray, List.set_cons_zero, List.set_cons_succ, Nat.reduceAdd, Nat.zero_add, k0] at hK
      have HK := Lib.hid hK; clear hK
      obtain ⟨-, -, ⟨v0, v1, r0, r1⟩, -, -, -, fR, -⟩ := (HIO.out w0 HI.out)
      go_simp
      exact HK.out undef _ (HST.out w0 HI.out).1 (HST.out w0 HI.out).2 (HST2.out w0 HI.out)
    refine EachOps.cons (fun t w0 hI hd _ K hK => ?_) ?_
    · dsimp only at hK ⊢
      have HI := Lib.hid hI; clear hI
      obtain ⟨x37, k37⟩ : ∃ x : Int, t 37 = .int .i64 x := hd 37 (by kernel_rfl)
      clear hd
      simp only [Act.put, List.setIfInBounds_toArray, List.set_cons_zero, List.set_cons_succ, Nat.reduceAdd, Nat.zero_add, k37] at hK
      have HK := Lib.hid hK; clear hK
      go_simp
      exact HK.out _ _ HI.out (RM.out _ _ ⟨ChgB.refl _ _ _, fun h => h⟩) ⟨_, rfl⟩
    exact EachOps.nil
  case hQ =>
    intro t w0 hI hd
    obtain ⟨x39, k39⟩ : ∃ x : Int, t 39 = .int .i64 x := hd 39 (by decide)
    have hfin := FO.out _ (hd 38 (by decide))
    obtain ⟨b0, ⟨l0, l1⟩, -, g0, g1, ss, fR, rp, dx⟩ := HIO.out w0 hI
    obtain ⟨r0, r1⟩ := hfin
    have BB := Lib.hid b0; have RP := Lib.hid rp; clear hd hI rp b0 ss dx
    (try dsimp only)
    go_wp2
    refine bodyPost_ret (by simp [results, Try.results25, go_sem, *] <;> rfl) rfl ?_
    exact ⟨⟨_, _, _, _, ts, ls, ⟨_, rfl⟩, RP.out.mono (by omega) (by omega), h1, h2, h3, h4⟩, BB.out⟩
end Go.Proofs.Ytjabldjffpjkeaa
