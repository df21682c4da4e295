/- The draw of a profile and a depth. -/
import Derived.Test.YtbpekljemchmeaaDrawKnot
import Derived.Test.YtbpekljemchmeaaEach
import Derived.Deep.RegionHeld3
import Derived.BigRegion
namespace Go.Proofs.Ytbpekljemchmeaa
set_option linter.unusedSimpArgs false
set_option linter.unusedVariables false
open Go.RowKit

/-- a row of n numbers made here -/
def RowI (lo n : Nat) (v : Value) (w : World) : Prop := ∃ (b : Nat) (ys : List Int), ys.length = n ∧ v = .slice (some ⟨b, 0, none⟩) n n ∧ lo ≤ b ∧ b < w.heap.size ∧ ∀ i x, ys[i]? = some x → w.cell? ⟨b, i, none⟩ = some (.int .i64 x)
theorem RowI.chgB {lo n l h : Nat} {v : Value} {w w1 : World} (k : RowI lo n v w) (hc : ChgB l h w w1) (hl : h ≤ lo) : RowI lo n v w1 := by
  obtain ⟨b, ys, h1, h2, h3, h4, h5⟩ := k
  exact ⟨b, ys, h1, h2, h3, Nat.lt_of_lt_of_le h4 hc.size, fun i x hx => (World.cell?_of_block (w := w) (hc.block b h4 (.inr (by omega)))).trans (h5 i x hx)⟩

theorem l01PickO_any (S lo n : Nat) (A : Option Addr) (c : Nat) (xs : List Int) (v : Value) (w : World) (h : SrcAt w S A c xs) (ho : RowI lo n v w) (hn : 0 < n) (hm : n ≤ 9223372036854775807) (hS : S < lo) :
    Calls Try.prog 29 #[.pointer (some ⟨S, 0, none⟩), v] w fun e w' => (∃ x : Int, e = .returned (.int .i64 x)) ∧ SrcAt w' S A c xs ∧ Chg S (S + 1) w w' := by
  obtain ⟨b, ys, rfl, rfl, h3, h4, h5⟩ := ho
  refine (l01Pick_any S A c xs b 0 ys.length ys w h ⟨Nat.le_refl _, hm, .inr ⟨b, 0, rfl, h4, fun i x hx => by simpa using h5 i x hx⟩⟩ hn (by omega)).mono ?_
  rintro e w' ⟨⟨x, he, -⟩, hs, hc⟩
  exact ⟨⟨x, he⟩, hs, hc⟩

set_option maxRecDepth 100000 in
set_option maxHeartbeats 8000000 in
theorem l04DrawDepth_any (S : Nat) (A : Option Addr) (c : Nat) (xs : List Int) (lo hi : Nat) (A1 A2 : Option Addr) (c1 c2 : Nat) (ts ls : List Int) (w : World) (h : SrcAt w S A c xs) (hp : ResP w lo hi A1 c1 A2 c2 ts ls) (h1 : 2 ≤ ts.length) (h2 : ts.length ≤ 13) (hlo : S < lo) (hhi : hi ≤ w.heap.size) :
    Calls Try.prog 21 #[.pointer (some ⟨S, 0, none⟩), profV A1 ts.length c1 A2 ls.length c2] w fun e w' => (∃ x : Int, e = .returned (.int .i64 x)) ∧ SrcAt w' S A c xs ∧ ChgB S (S + 1) w w' := by
  have ltS := h.lt
  have SS := Lib.hid h; have RP := Lib.hid hp; have CC := Lib.hid (ChgB.refl S (S + 1) w); clear h hp
  have nS0 : w.heap.size ≠ S := by omega
  have nS1 : S ≠ w.heap.size := by omega
  obtain ⟨b1, o1, rfl, hb1, dx⟩ := RP.out.at.1.spd (by omega)
  obtain ⟨p1, p2, -⟩ := RP.out.1.pin (by intro e; rw [e] at h1; simp at h1)
  have d1 := dx (ts.length - 1) (by omega)
  obtain ⟨vl, hvl⟩ : ∃ v, spd ts ((ts.length - 1 : Nat) : Int) = v := ⟨_, rfl⟩
  rw [hvl] at d1
  have i0 : (0 : Int) ≤ (ts.length : Int) - 1 := by omega
  have i1 : ((ts.length : Int) - 1).toNat = ts.length - 1 := by omega
  have i2 : (ts.length : Int) - 1 < ts.length := by omega
  have i5 : (0 : Int) < ts.length := by omega
  have i6 : ¬ (ts.length : Int) = 0 := by omega
  have i7 : ((ts.length : Int) == 0) = false := beq_eq_false_iff_ne.2 i6
  have DX := Lib.hid dx; clear dx hvl
  go_enter Try.func21, Try.ntmps21
  go_upto_region 5 with fail
  have ne1 : b1 ≠ w.heap.size := by omega
  have ne2 : b1 ≠ S := by omega
  refine genS (S := fun w' => ChgB S (S + 1) w w' ∧ w.heap.size < w'.heap.size ∧ w'.cell? ⟨w.heap.size, 0, none⟩ = some (.slice (some ⟨b1, o1, none⟩) ts.length c1) ∧ SrcAt w' S A c xs ∧ (∀ k : Nat, k < ts.length → w'.cell? ⟨b1, o1 + k, none⟩ = some (.int .i64 (spd ts k)))) ⟨(by repeat' (first | with_reducible exact CC.out | with_reducible exact ChgB.refl _ _ _ | with_reducible refine ChgB.setB ?_ ?_ _ | with_reducible refine ChgB.alloc ?_ _ | with_reducible refine ChgB.drew ?_ | with_reducible refine ChgB.drewN ?_ _ | omega | (simp; done) | (simp; omega))), by first | omega | (simp; done) | (simp; omega), by simp [*, go_sem], SS.out.keepS (by repeat' (first | with_reducible exact Keep.refl _ _ _ | with_reducible refine Keep.setB ?_ ?_ _ | with_reducible refine Keep.alloc ?_ ?_ _ | with_reducible refine Keep.drew ?_ | omega | (simp; done) | (simp; omega))), fun k hk => by have := DX.out k hk; simp [*, go_sem]⟩ ?_
  clear d1 i0 i1 i2 i6 i7 CC SS DX
  rintro w5 ⟨cc, lt, g0, ss, dx⟩
  have CC := Lib.hid cc; have SS := Lib.hid ss; have DX := Lib.hid dx; clear cc ss dx
  obtain ⟨Inv, iout, imk⟩ : ∃ I : World → Prop, (∀ w', I w' → ChgB S (S + 1) w w' ∧ w.heap.size < w'.heap.size ∧ w'.cell? ⟨w.heap.size, 0, none⟩ = some (.slice (some ⟨b1, o1, none⟩) ts.length c1) ∧ SrcAt w' S A c xs ∧ (∀ k : Nat, k < ts.length → w'.cell? ⟨b1, o1 + k, none⟩ = some (.int .i64 (spd ts k)))) ∧ (∀ w', ChgB S (S + 1) w w' ∧ w.heap.size < w'.heap.size ∧ w'.cell? ⟨w.heap.size, 0, none⟩ = some (.slice (some ⟨b1, o1, none⟩) ts.length c1) ∧ SrcAt w' S A c xs ∧ (∀ k : Nat, k < ts.length → w'.cell? ⟨b1, o1 + k, none⟩ = some (.int .i64 (spd ts k))) → I w') := ⟨fun w' => ChgB S (S + 1) w w' ∧ w.heap.size < w'.heap.size ∧ w'.cell? ⟨w.heap.size, 0, none⟩ = some (.slice (some ⟨b1, o1, none⟩) ts.length c1) ∧ SrcAt w' S A c xs ∧ (∀ k : Nat, k < ts.length → w'.cell? ⟨b1, o1 + k, none⟩ = some (.int .i64 (spd ts k))), fun _ h => h, fun _ h => h⟩
  have HIO := Lib.hid iout; have IM := Lib.hid imk; clear iout imk
  obtain ⟨Rel, rout, rmk⟩ : ∃ R : World → World → Prop, (∀ u v, R u v → (fun u v => ChgB (S) (S + 1) u v) u v) ∧ (∀ u v, (fun u v => ChgB (S) (S + 1) u v) u v → R u v) := ⟨fun u v => ChgB (S) (S + 1) u v, fun _ _ h => h, fun _ _ h => h⟩
  have RO := Lib.hid rout; have RM := Lib.hid rmk; clear rout rmk
  have HG := Lib.hid (show ∀ u v, Inv u → ChgB S (S + 1) u v → SrcAt v S A c xs → Inv v by
    intro u v hi hc hs
    obtain ⟨b0, l0, g0, -, dx⟩ := HIO.out u hi
    have kc : ∀ b o, b < u.heap.size → b ≠ S → v.cell? ⟨b, o, none⟩ = u.cell? ⟨b, o, none⟩ := fun b o h1 h2 => World.cell?_of_block (w := u) (hc.block b h1 (by omega))
    have hz := hc.size
    exact IM.out v ⟨b0.trans hc, by omega, (kc _ _ (by omega) (by omega)).trans g0, hs, fun k hk => (kc _ _ (by omega) (by omega)).trans (dx k hk)⟩)
  have HC := Lib.hid (show ∀ u v, Inv u → SrcAt v S A c xs → Chg S (S + 1) u v → Inv v ∧ Rel u v by
    intro u v hi hs hc
    exact ⟨HG.out u v hi hc.toB hs, RM.out u v hc.toB⟩)
  have HA := Lib.hid (show ∀ u o, Inv u → Inv (u.alloc o) ∧ Rel u (u.alloc o) by
    intro u o hi
    have hcb : ChgB S (S + 1) u (u.alloc o) := (ChgB.refl _ _ _).alloc o
    have hbl : Below u.heap.size u (u.alloc o) := (Below.refl _ _).alloc (Nat.le_refl _) o
    exact ⟨HG.out u _ hi hcb ((HIO.out u hi).2.2.2.1.below hbl (HIO.out u hi).2.2.2.1.lt), RM.out u _ hcb⟩)
  refine wp_region_each (B := ?B) (Inv := Inv) (R := Rel) (T := fun (j : Nat) (v : Value) (w' : World) => match j with
      | 0 => v = .pointer (some ⟨S, 0, none⟩)
      | 1 => v = .pointer (some ⟨S, 0, none⟩)
      | 2 => ∃ x : Int, v = .int .i64 x
      | 3 => ∃ x : Int, v = .int .i64 x
      | 4 => ∃ x : Int, v = .int .i64 x
      | 5 => v = .pointer (some ⟨S, 0, none⟩)
      | 6 => ∃ x : Int, v = .int .i64 x
      | 7 => ∃ x : Int, v = .int .i64 x
      | 8 => ∃ x : Int, v = .int .i64 x
      | 9 => v = .pointer (some ⟨w.heap.size, 0, none⟩)
      | 10 => v = .slice (some ⟨b1, o1, none⟩) ts.length c1
      | 11 => v = .pointer (some ⟨S, 0, none⟩)
      | 12 => v = .int .i64 (ts.length : Int)
      | 13 => ∃ i : Nat, i < ts.length ∧ v = .int .i64 i
      | 14 => ∃ i : Nat, i < ts.length ∧ v = .pointer (some ⟨b1, o1 + i, none⟩)
      | 15 => ∃ x : Int, v = .int .i64 x
      | 16 => v = .pointer (some ⟨S, 0, none⟩)
      | 17 => ∃ x : Int, v = .int .i64 x
      | 18 => ∃ x : Int, v = .int .i64 x
      | 19 => ∃ x : Int, v = .int .i64 x
      | 20 => RowI (w.heap.size) 4 v w'
      | 21 => ∃ x : Int, v = .int .i64 x
      | 22 => RowI (w.heap.size) 4 v w'
      | 23 => ∃ x : Int, v = .int .i64 x
      | 24 => ∃ x : Int, v = .int .i64 x
      | _ => True) (by kernel_rfl) (fun t => ?hB) (by kernel_rfl) (by kernel_rfl) (by kernel_rfl) ?hT ?hU ?hI ?hE ?hQ
  case hB =>
    simp only [putsFrom, Act.put, List.setIfInBounds_toArray, List.set_cons_zero, List.set_cons_succ, Nat.reduceAdd, Nat.zero_add]
    exact rfl
  case hT =>
    intro j v u w' hr
    have hr := (RO.out u w' hr)
    split
    · exact fun h => h
    · exact fun h => h
    · exact fun h => h
    · exact fun h => h
    · exact fun h => h
    · exact fun h => h
    · exact fun h => h
    · exact fun h => h
    · exact fun h => h
    · exact fun h => h
    · exact fun h => h
    · exact fun h => h
    · exact fun h => h
    · exact fun h => h
    · exact fun h => h
    · exact fun h => h
    · exact fun h => h
    · exact fun h => h
    · exact fun h => h
    · exact fun h => h
    · exact fun h => h.chgB (hr) (by omega)
    · exact fun h => h
    · exact fun h => h.chgB (hr) (by omega)
    · exact fun h => h
    · exact fun h => h
    · exact fun h => h
  case hU => exact fun w' _ => RM.out _ _ (ChgB.refl _ _ _)
  case hI =>
    exact IM.out _ ⟨CC.out.drew, by simpa using lt, g0, SS.out.of_block (by simp) rfl (fun _ _ => rfl), DX.out⟩
  case hE =>
    refine EachOps.cons (fun t w0 hI hd _ K hK => ?_) ?_
    · dsimp only at hK ⊢
      have HI := Lib.hid hI; clear hI
      clear hd
      simp only [Act.put, List.setIfInBounds_toArray, List.set_cons_zero, List.set_cons_succ, Nat.reduceAdd, Nat.zero_add] at hK
      have HK := Lib.hid hK; clear hK
      go_simp
      exact HK.out _ _ HI.out (RM.out _ _ (ChgB.refl _ _ _)) rfl
    refine EachOps.cons (fun t w0 hI hd _ K hK => ?_) ?_
    · dsimp only at hK ⊢
      have HI := Lib.hid hI; clear hI
      clear hd
      simp only [Act.put, List.setIfInBounds_toArray, List.set_cons_zero, List.set_cons_succ, Nat.reduceAdd, Nat.zero_add] at hK
      have HK := Lib.hid hK; clear hK
      go_simp
      exact HK.out _ _ HI.out (RM.out _ _ (ChgB.refl _ _ _)) rfl
    refine EachOps.cons (fun t w0 hI hd _ K hK => ?_) ?_
    · dsimp only at hK ⊢
      have HI := Lib.hid hI; clear hI
      clear hd
      simp only [Act.put, List.setIfInBounds_toArray, List.set_cons_zero, List.set_cons_succ, Nat.reduceAdd, Nat.zero_add] at hK
      have HK := Lib.hid hK; clear hK
      go_simp
      exact HK.out _ _ HI.out (RM.out _ _ (ChgB.refl _ _ _)) ⟨_, rfl⟩
    refine EachOps.cons (fun t w0 hI hd _ K hK => ?_) ?_
    · dsimp only at hK ⊢
      have HI := Lib.hid hI; clear hI
      obtain ⟨x2, k2⟩ : ∃ x : Int, t 2 = .int .i64 x := hd 2 (by kernel_rfl)
      clear hd
      simp only [Act.put, List.setIfInBounds_toArray, List.set_cons_zero, List.set_cons_succ, Nat.reduceAdd, Nat.zero_add, k2] at hK
      have HK := Lib.hid hK; clear hK
      go_simp
      exact HK.out _ _ HI.out (RM.out _ _ (ChgB.refl _ _ _)) ⟨_, rfl⟩
    refine EachOps.cons (fun t w0 hI hd _ K hK => ?_) ?_
    · dsimp only at hK ⊢
      have HI := Lib.hid hI; clear hI
      have k1 : t 1 = .pointer (some ⟨S, 0, none⟩) := hd 1 (by kernel_rfl)
      obtain ⟨x3, k3⟩ : ∃ x : Int, t 3 = .int .i64 x := hd 3 (by kernel_rfl)
      clear hd
      simp only [Act.put, List.setIfInBounds_toArray, List.set_cons_zero, List.set_cons_succ, Nat.reduceAdd, Nat.zero_add, k1, k3] at hK
      have HK := Lib.hid hK; clear hK
      go_simp
      go_at_call 28
      have PP := Lib.hid (HIO.out w0 HI.out)
      refine (l01Next_any S A c xs _ _ (PP.out.2.2.2.1)).mono ?_
      rintro e w1 ⟨⟨n1, rfl, n0, n2⟩, s1, ch⟩
      (try dsimp only)
      exact HK.out _ _ (HC.out w0 w1 HI.out s1 ch).1 (HC.out w0 w1 HI.out s1 ch).2 ⟨n1, rfl⟩
    refine EachOps.cons (fun t w0 hI hd _ K hK => ?_) ?_
    · dsimp only at hK ⊢
      have HI := Lib.hid hI; clear hI
      clear hd
      simp only [Act.put, List.setIfInBounds_toArray, List.set_cons_zero, List.set_cons_succ, Nat.reduceAdd, Nat.zero_add] at hK
      have HK := Lib.hid hK; clear hK
      go_simp
      exact HK.out _ _ HI.out (RM.out _ _ (ChgB.refl _ _ _)) rfl
    refine EachOps.cons (fun t w0 hI hd _ K hK => ?_) ?_
    · dsimp only at hK ⊢
      have HI := Lib.hid hI; clear hI
      clear hd
      simp only [Act.put, List.setIfInBounds_toArray, List.set_cons_zero, List.set_cons_succ, Nat.reduceAdd, Nat.zero_add] at hK
      have HK := Lib.hid hK; clear hK
      go_simp
      exact HK.out _ _ HI.out (RM.out _ _ (ChgB.refl _ _ _)) ⟨_, rfl⟩
    refine EachOps.cons (fun t w0 hI hd _ K hK => ?_) ?_
    · dsimp only at hK ⊢
      have HI := Lib.hid hI; clear hI
      obtain ⟨x6, k6⟩ : ∃ x : Int, t 6 = .int .i64 x := hd 6 (by kernel_rfl)
      clear hd
      simp only [Act.put, List.setIfInBounds_toArray, List.set_cons_zero, List.set_cons_succ, Nat.reduceAdd, Nat.zero_add, k6] at hK
      have HK := Lib.hid hK; clear hK
      go_simp
      exact HK.out _ _ HI.out (RM.out _ _ (ChgB.refl _ _ _)) ⟨_, rfl⟩
    refine EachOps.cons (fun t w0 hI hd _ K hK => ?_) ?_
    · dsimp only at hK ⊢
      have HI := Lib.hid hI; clear hI
      have k5 : t 5 = .pointer (some ⟨S, 0, none⟩) := hd 5 (by kernel_rfl)
      obtain ⟨x7, k7⟩ : ∃ x : Int, t 7 = .int .i64 x := hd 7 (by kernel_rfl)
      clear hd
      simp only [Act.put, List.setIfInBounds_toArray, List.set_cons_zero, List.set_cons_succ, Nat.reduceAdd, Nat.zero_add, k5, k7] at hK
      have HK := Lib.hid hK; clear hK
      go_simp
      go_at_call 28
      have PP := Lib.hid (HIO.out w0 HI.out)
      refine (l01Next_any S A c xs _ _ (PP.out.2.2.2.1)).mono ?_
      rintro e w1 ⟨⟨n1, rfl, n0, n2⟩, s1, ch⟩
      (try dsimp only)
      exact HK.out _ _ (HC.out w0 w1 HI.out s1 ch).1 (HC.out w0 w1 HI.out s1 ch).2 ⟨n1, rfl⟩
    refine EachOps.cons (fun t w0 hI hd _ K hK => ?_) ?_
    · dsimp only at hK ⊢
      have HI := Lib.hid hI; clear hI
      clear hd
      simp only [Act.put, List.setIfInBounds_toArray, List.set_cons_zero, List.set_cons_succ, Nat.reduceAdd, Nat.zero_add] at hK
      have HK := Lib.hid hK; clear hK
      go_simp
      exact HK.out _ _ HI.out (RM.out _ _ (ChgB.refl _ _ _)) rfl
    refine EachOps.cons (fun t w0 hI hd _ K hK => ?_) ?_
    · dsimp only at hK ⊢
      have HI := Lib.hid hI; clear hI
      have k9 : t 9 = .pointer (some ⟨w.heap.size, 0, none⟩) := hd 9 (by kernel_rfl)
      clear hd
      simp only [Act.put, List.setIfInBounds_toArray, List.set_cons_zero, List.set_cons_succ, Nat.reduceAdd, Nat.zero_add, k9] at hK
      have HK := Lib.hid hK; clear hK
      obtain ⟨-, -, g0, -, -⟩ := (HIO.out w0 HI.out)
      go_simp
      exact HK.out _ _ HI.out (RM.out _ _ (ChgB.refl _ _ _)) rfl
    refine EachOps.cons (fun t w0 hI hd _ K hK => ?_) ?_
    · dsimp only at hK ⊢
      have HI := Lib.hid hI; clear hI
      clear hd
      simp only [Act.put, List.setIfInBounds_toArray, List.set_cons_zero, List.set_cons_succ, Nat.reduceAdd, Nat.zero_add] at hK
      have HK := Lib.hid hK; clear hK
      go_simp
      exact HK.out _ _ HI.out (RM.out _ _ (ChgB.refl _ _ _)) rfl
    refine EachOps.cons (fun t w0 hI hd _ K hK => ?_) ?_
    · dsimp only at hK ⊢
      have HI := Lib.hid hI; clear hI
      clear hd
      simp only [Act.put, List.setIfInBounds_toArray, List.set_cons_zero, List.set_cons_succ, Nat.reduceAdd, Nat.zero_add] at hK
      have HK := Lib.hid hK; clear hK
      go_simp
      exact HK.out _ _ HI.out (RM.out _ _ (ChgB.refl _ _ _)) rfl
    refine EachOps.cons (fun t w0 hI hd _ K hK => ?_) ?_
    · dsimp only at hK ⊢
      have HI := Lib.hid hI; clear hI
      have k11 : t 11 = .pointer (some ⟨S, 0, none⟩) := hd 11 (by kernel_rfl)
      have k12 : t 12 = .int .i64 (ts.length : Int) := hd 12 (by kernel_rfl)
      clear hd
      simp only [Act.put, List.setIfInBounds_toArray, List.set_cons_zero, List.set_cons_succ, Nat.reduceAdd, Nat.zero_add, k11, k12] at hK
      have HK := Lib.hid hK; clear hK
      go_simp
      go_at_call 28
      have PP := Lib.hid (HIO.out w0 HI.out)
      refine (l01Next_any S A c xs _ _ (PP.out.2.2.2.1)).mono ?_
      rintro e w1 ⟨⟨n1, rfl, n0, n2⟩, s1, ch⟩
      (try dsimp only)
      obtain ⟨i, rfl⟩ := Int.eq_ofNat_of_zero_le n0
      exact HK.out _ _ (HC.out w0 w1 HI.out s1 ch).1 (HC.out w0 w1 HI.out s1 ch).2 ⟨i, by omega, rfl⟩
    refine EachOps.cons (fun t w0 hI hd _ K hK => ?_) ?_
    · dsimp only at hK ⊢
      have HI := Lib.hid hI; clear hI
      have k10 : t 10 = .slice (some ⟨b1, o1, none⟩) ts.length c1 := hd 10 (by kernel_rfl)
      have k13 : ∃ i : Nat, i < ts.length ∧ (t 13) = .int .i64 i := hd 13 (by kernel_rfl)
      clear hd
      obtain ⟨i, i1, k13⟩ := k13
      simp only [Act.put, List.setIfInBounds_toArray, List.set_cons_zero, List.set_cons_succ, Nat.reduceAdd, Nat.zero_add, k13, k10] at hK
      have HK := Lib.hid hK; clear hK
      have i2 : (i : Int) < ts.length := by omega
      have i3 : (0 : Int) ≤ i := by omega
      go_simp
      exact HK.out _ _ HI.out (RM.out _ _ (ChgB.refl _ _ _)) ⟨i, i1, rfl⟩
    refine EachOps.cons (fun t w0 hI hd _ K hK => ?_) ?_
    · dsimp only at hK ⊢
      have HI := Lib.hid hI; clear hI
      have k14 : ∃ i : Nat, i < ts.length ∧ (t 14) = .pointer (some ⟨b1, o1 + i, none⟩) := hd 14 (by kernel_rfl)
      clear hd
      obtain ⟨i, i1, k14⟩ := k14
      simp only [Act.put, List.setIfInBounds_toArray, List.set_cons_zero, List.set_cons_succ, Nat.reduceAdd, Nat.zero_add, k14] at hK
      have HK := Lib.hid hK; clear hK
      have cx := (HIO.out w0 HI.out).2.2.2.2 i i1
      go_simp
      exact HK.out _ _ HI.out (RM.out _ _ (ChgB.refl _ _ _)) ⟨_, rfl⟩
    refine EachOps.cons (fun t w0 hI hd _ K hK => ?_) ?_
    · dsimp only at hK ⊢
      have HI := Lib.hid hI; clear hI
      clear hd
      simp only [Act.put, List.setIfInBounds_toArray, List.set_cons_zero, List.set_cons_succ, Nat.reduceAdd, Nat.zero_add] at hK
      have HK := Lib.hid hK; clear hK
      go_simp
      exact HK.out _ _ HI.out (RM.out _ _ (ChgB.refl _ _ _)) rfl
    refine EachOps.cons (fun t w0 hI hd _ K hK => ?_) ?_
    · dsimp only at hK ⊢
      have HI := Lib.hid hI; clear hI
      clear hd
      simp only [Act.put, List.setIfInBounds_toArray, List.set_cons_zero, List.set_cons_succ, Nat.reduceAdd, Nat.zero_add] at hK
      have HK := Lib.hid hK; clear hK
      go_simp
      exact HK.out _ _ HI.out (RM.out _ _ (ChgB.refl _ _ _)) ⟨_, rfl⟩
    refine EachOps.cons (fun t w0 hI hd _ K hK => ?_) ?_
    · dsimp only at hK ⊢
      have HI := Lib.hid hI; clear hI
      clear hd
      simp only [Act.put, List.setIfInBounds_toArray, List.set_cons_zero, List.set_cons_succ, Nat.reduceAdd, Nat.zero_add] at hK
      have HK := Lib.hid hK; clear hK
      go_simp
      exact HK.out _ _ HI.out (RM.out _ _ (ChgB.refl _ _ _)) ⟨_, rfl⟩
    refine EachOps.cons (fun t w0 hI hd _ K hK => ?_) ?_
    · dsimp only at hK ⊢
      have HI := Lib.hid hI; clear hI
      obtain ⟨x18, k18⟩ : ∃ x : Int, t 18 = .int .i64 x := hd 18 (by kernel_rfl)
      clear hd
      simp only [Act.put, List.setIfInBounds_toArray, List.set_cons_zero, List.set_cons_succ, Nat.reduceAdd, Nat.zero_add, k18] at hK
      have HK := Lib.hid hK; clear hK
      go_simp
      exact HK.out _ _ HI.out (RM.out _ _ (ChgB.refl _ _ _)) ⟨_, rfl⟩
    refine EachOps.cons (fun t w0 hI hd _ K hK => ?_) ?_
    · dsimp only at hK ⊢
      have HI := Lib.hid hI; clear hI
      obtain ⟨x17, k17⟩ : ∃ x : Int, t 17 = .int .i64 x := hd 17 (by kernel_rfl)
      obtain ⟨x19, k19⟩ : ∃ x : Int, t 19 = .int .i64 x := hd 19 (by kernel_rfl)
      clear hd
      simp only [Act.put, List.setIfInBounds_toArray, List.set_cons_zero, List.set_cons_succ, Nat.reduceAdd, Nat.zero_add, k17, k19] at hK
      have HK := Lib.hid hK; clear hK
      go_simp
      exact HK.out _ _ (HA.out w0 _ HI.out).1 (HA.out w0 _ HI.out).2 ⟨_, [0, -1, x17, x19], rfl, rfl, by have := (HIO.out w0 HI.out).2.1; omega, by simp, fun i x hx => by rcases i with _ | _ | _ | _ | i <;> simp at hx <;> subst hx <;> simp⟩
    refine EachOps.cons (fun t w0 hI hd _ K hK => ?_) ?_
    · dsimp only at hK ⊢
      have HI := Lib.hid hI; clear hI
      have k16 : t 16 = .pointer (some ⟨S, 0, none⟩) := hd 16 (by kernel_rfl)
      have k20 : RowI (w.heap.size) 4 (t 20) w0 := hd 20 (by kernel_rfl)
      clear hd
      simp only [Act.put, List.setIfInBounds_toArray, List.set_cons_zero, List.set_cons_succ, Nat.reduceAdd, Nat.zero_add, k16] at hK
      have HK := Lib.hid hK; clear hK
      go_simp
      go_at_call 29
      have PP := Lib.hid (HIO.out w0 HI.out)
      refine (l01PickO_any S _ 4 A c xs _ _ (PP.out.2.2.2.1) k20 (by omega) (by omega) (by omega)).mono ?_
      rintro e w1 ⟨⟨n1, rfl⟩, s1, ch⟩
      (try dsimp only)
      exact HK.out _ _ (HC.out w0 w1 HI.out s1 ch).1 (HC.out w0 w1 HI.out s1 ch).2 ⟨n1, rfl⟩
    refine EachOps.cons (fun t w0 hI hd _ K hK => ?_) ?_
    · dsimp only at hK ⊢
      have HI := Lib.hid hI; clear hI
      obtain ⟨x4, k4⟩ : ∃ x : Int, t 4 = .int .i64 x := hd 4 (by kernel_rfl)
      obtain ⟨x8, k8⟩ : ∃ x : Int, t 8 = .int .i64 x := hd 8 (by kernel_rfl)
      obtain ⟨x15, k15⟩ : ∃ x : Int, t 15 = .int .i64 x := hd 15 (by kernel_rfl)
      obtain ⟨x21, k21⟩ : ∃ x : Int, t 21 = .int .i64 x := hd 21 (by kernel_rfl)
      clear hd
      simp only [Act.put, List.setIfInBounds_toArray, List.set_cons_zero, List.set_cons_succ, Nat.reduceAdd, Nat.zero_add, k4, k8, k15, k21] at hK
      have HK := Lib.hid hK; clear hK
      go_simp
      exact HK.out _ _ (HA.out w0 _ HI.out).1 (HA.out w0 _ HI.out).2 ⟨_, [x4, x8, x15, x21], rfl, rfl, by have := (HIO.out w0 HI.out).2.1; omega, by simp, fun i x hx => by rcases i with _ | _ | _ | _ | i <;> simp at hx <;> subst hx <;> simp⟩
    refine EachOps.cons (fun t w0 hI hd _ K hK => ?_) ?_
    · dsimp only at hK ⊢
      have HI := Lib.hid hI; clear hI
      have k0 : t 0 = .pointer (some ⟨S, 0, none⟩) := hd 0 (by kernel_rfl)
      have k22 : RowI (w.heap.size) 4 (t 22) w0 := hd 22 (by kernel_rfl)
      clear hd
      simp only [Act.put, List.setIfInBounds_toArray, List.set_cons_zero, List.set_cons_succ, Nat.reduceAdd, Nat.zero_add, k0] at hK
      have HK := Lib.hid hK; clear hK
      go_simp
      go_at_call 29
      have PP := Lib.hid (HIO.out w0 HI.out)
      refine (l01PickO_any S _ 4 A c xs _ _ (PP.out.2.2.2.1) k22 (by omega) (by omega) (by omega)).mono ?_
      rintro e w1 ⟨⟨n1, rfl⟩, s1, ch⟩
      (try dsimp only)
      exact HK.out _ _ (HC.out w0 w1 HI.out s1 ch).1 (HC.out w0 w1 HI.out s1 ch).2 ⟨n1, rfl⟩
    refine EachOps.cons (fun t w0 hI hd _ K hK => ?_) ?_
    · dsimp only at hK ⊢
      have HI := Lib.hid hI; clear hI
      obtain ⟨x23, k23⟩ : ∃ x : Int, t 23 = .int .i64 x := hd 23 (by kernel_rfl)
      clear hd
      simp only [Act.put, List.setIfInBounds_toArray, List.set_cons_zero, List.set_cons_succ, Nat.reduceAdd, Nat.zero_add, k23] at hK
      have HK := Lib.hid hK; clear hK
      go_simp
      exact HK.out _ _ HI.out (RM.out _ _ (ChgB.refl _ _ _)) ⟨_, rfl⟩
    exact EachOps.nil
  case hQ =>
    intro t w0 hI hd
    obtain ⟨x24, k24⟩ : ∃ x : Int, t 24 = .int .i64 x := hd 24 (by decide)
    obtain ⟨b0, l0, g0, ss, dx⟩ := HIO.out w0 hI
    have CC := Lib.hid b0; have SS := Lib.hid ss; clear hd hI b0 ss dx g0
    (try dsimp only)
    go_wp2
    refine bodyPost_ret (by simp [results, Try.results21, go_sem, *] <;> rfl) rfl ?_
    exact ⟨⟨_, rfl⟩, SS.out, CC.out⟩
set_option maxRecDepth 100000 in
set_option maxHeartbeats 8000000 in
theorem drawLayerOf_any (A : Option Addr) (c : Nat) (xs : List Int) (w : World) (h : BytesAt w A c xs) :
    Calls Try.prog 10 #[.slice A xs.length c] w fun e w' => (∃ A1 c1 A2 c2 ts ls k, e = .returned (.tuple #[profV A1 (List.length ts) c1 A2 (List.length ls) c2, .int .i64 k]) ∧ ResP w' w.heap.size w'.heap.size A1 c1 A2 c2 ts ls) ∧ Below w.heap.size w w' := by
  have H := Lib.hid h; clear h
  go_enter Try.func10, Try.ntmps10
  go_wp2_with fail
  refine (l01From_any A c xs _ (H.out.below (B := w.heap.size) (by go_grown) (Nat.le_refl _))).mono ?_
  rintro e w3 ⟨rfl, s3, hb3⟩
  obtain ⟨T3, z3, q3, f3, x3, y3⟩ := lkeep (w := w) [w.heap.size] (by first | (simp; done) | (simp; omega)) (by go_grown) hb3
  simp only [World.size_alloc] at s3
  have hS3 := s3.lt
  have l3_0 := x3 (w.heap.size) (by simp)
  have SS := Lib.hid s3; have BB := Lib.hid T3; clear s3 T3 hb3
  go_upto_region 3 with (go_at_call 20; refine (l04Draw_any (w.heap.size + 1) A c xs _ (SS.out.keepS (by repeat' (first | with_reducible exact Keep.refl _ _ _ | with_reducible refine Keep.setB ?_ ?_ _ | with_reducible refine Keep.alloc ?_ ?_ _ | with_reducible refine Keep.drew ?_ | omega | (simp; done) | (simp; omega))))).mono ?_; rintro e w4 ⟨⟨A1, c1, A2, c2, ts, ls, rfl, rp, h1, h2, h3, h4⟩, s4', ch4⟩; have BB := Lib.hid ((show Below w.heap.size w _ from (by first | with_reducible exact BB.out | (have hb_ := BB.out; go_grown; done) | (have hb_ := BB.out; exact bdrewN (by go_grown) _))).trans (ch4.below (by omega) (by first | omega | (simp; done) | (simp; omega)))); have SS := Lib.hid s4'; obtain ⟨z4, q4, f4, x4, y4⟩ := ckeepB [w.heap.size] (by first | (simp; done) | (simp; omega)) ch4; (try simp only [World.size_alloc, World.size_drew, size_set] at z4); clear s4' ch4; have l4_0 := x4 (w.heap.size) (by simp); have RP := Lib.hid rp; clear rp)
  obtain ⟨naa1, nab1⟩ : w.heap.size ≠ w4.heap.size ∧ w4.heap.size ≠ w.heap.size := by
    refine ⟨?_, ?_⟩ <;> omega
  have sA4_0 : (w.heap.size + 1) ≠ w4.heap.size := by omega
  have sB4_0 : w4.heap.size ≠ (w.heap.size + 1) := by omega
  have sC4_0 : (w.heap.size + 1) < w4.heap.size := by omega
  have sD4_0 : w.heap.size ≤ w4.heap.size := by omega
  refine genS (S := fun w' => w.heap.size < w'.heap.size ∧ w4.heap.size < w'.heap.size ∧ w'.cell? ⟨w.heap.size, 0, none⟩ = some (.slice none 0 0) ∧ w'.cell? ⟨w.heap.size, 1, none⟩ = some (.slice none 0 0) ∧ w'.cell? ⟨w4.heap.size, 0, none⟩ = some (.slice A1 (List.length ts) c1) ∧ w'.cell? ⟨w4.heap.size, 1, none⟩ = some (.slice A2 (List.length ls) c2) ∧ (∀ o, w'.frozen? ⟨w.heap.size, o, none⟩ = false) ∧ Below w.heap.size w w' ∧ SrcAt w' (w.heap.size + 1) A c xs ∧ ResP w' w3.heap.size w4.heap.size A1 c1 A2 c2 ts ls) ⟨by first | omega | (simp; done) | (simp; omega), by first | omega | (simp; done) | (simp; omega), by simp [*, go_sem], by simp [*, go_sem], by simp [*, go_sem], by simp [*, go_sem], fun o => by simp [*, go_sem], (by first | with_reducible exact BB.out | (have hb_ := BB.out; go_grown; done) | (have hb_ := BB.out; exact bdrewN (by go_grown) _)), SS.out.keepS (by repeat' (first | with_reducible exact Keep.refl _ _ _ | with_reducible refine Keep.setB ?_ ?_ _ | with_reducible refine Keep.alloc ?_ ?_ _ | with_reducible refine Keep.drew ?_ | omega | (simp; done) | (simp; omega))), RP.out.kept (by repeat' (first | with_reducible exact Keep.refl _ _ _ | with_reducible refine Keep.setB ?_ ?_ _ | with_reducible refine Keep.alloc ?_ ?_ _ | with_reducible refine Keep.drew ?_ | omega | (simp; done) | (simp; omega)))⟩ ?_
  clear z3 q3 f3 x3 y3 z4 q4 f4 x4 y4 l3_0 l4_0
  rintro w5 ⟨lt5_0, lt5_1, c5_0, c5_1, c5_2, c5_3, fz5_0, cc, ss, rr_RP⟩
  have BB := Lib.hid cc; have SS := Lib.hid ss; have RP := Lib.hid rr_RP; clear cc ss rr_RP
  go_region_held3 (fun w' => w'.cell? ⟨w4.heap.size, 0, none⟩ = some (.slice A1 (List.length ts) c1) ∧ w'.cell? ⟨w4.heap.size, 1, none⟩ = some (.slice A2 (List.length ls) c2)) (first | (go_keep; done) | (simp [*, go_sem]; done))
    (first
      | (go_at_call 21; refine (l04DrawDepth_any (w.heap.size + 1) A c xs w3.heap.size w4.heap.size A1 A2 c1 c2 ts ls _ (SS.out.keepS (by repeat' (first | with_reducible exact Keep.refl _ _ _ | with_reducible refine Keep.setB ?_ ?_ _ | with_reducible refine Keep.alloc ?_ ?_ _ | with_reducible refine Keep.drew ?_ | omega | (simp; done) | (simp; omega)))) (RP.out.kept (by repeat' (first | with_reducible exact Keep.refl _ _ _ | with_reducible refine Keep.setB ?_ ?_ _ | with_reducible refine Keep.alloc ?_ ?_ _ | with_reducible refine Keep.drew ?_ | omega | (simp; done) | (simp; omega)))) h1 h2 (by omega) (by first | omega | (simp; omega))).mono ?_; rintro e w6 ⟨⟨xd, rfl⟩, s6', ch6⟩; have BB := Lib.hid ((show Below w.heap.size w _ from (by first | with_reducible exact BB.out | (have hb_ := BB.out; go_grown; done) | (have hb_ := BB.out; exact bdrewN (by go_grown) _))).trans (ch6.below (by omega) (by first | omega | (simp; done) | (simp; omega)))); have RP := Lib.hid (RP.out.keepB (by repeat' (first | with_reducible exact Keep.refl _ _ _ | with_reducible refine Keep.setB ?_ ?_ _ | with_reducible refine Keep.alloc ?_ ?_ _ | with_reducible refine Keep.drew ?_ | omega | (simp; done) | (simp; omega))) ch6 (by omega) (by first | omega | (simp; done) | (simp; omega))); have SS := Lib.hid s6'; obtain ⟨z6, q6, f6, x6, y6⟩ := ckeepB [w.heap.size, w4.heap.size] (by first | (simp; done) | (simp; omega)) ch6; (try simp only [World.size_alloc, World.size_drew, size_set] at z6); clear s6' ch6; have l6_0 := x6 (w.heap.size) (by simp); have l6_1 := x6 (w4.heap.size) (by simp)))
  all_goals go_wp2
  all_goals refine bodyPost_ret (by simp [results, Try.results10, go_sem, *] <;> rfl) rfl ?_
  all_goals exact ⟨⟨_, _, _, _, ts, ls, _, rfl, ResP.mono (RP.out.kept (by repeat' (first | with_reducible exact Keep.refl _ _ _ | with_reducible refine Keep.setB ?_ ?_ _ | with_reducible refine Keep.alloc ?_ ?_ _ | with_reducible refine Keep.drew ?_ | omega | (simp; done) | (simp; omega)))) (by first | omega | (simp; done) | (simp; omega)) (by first | omega | (simp; done) | (simp; omega))⟩, (by first | with_reducible exact BB.out | (have hb_ := BB.out; go_grown; done) | (have hb_ := BB.out; exact bdrewN (by go_grown) _))⟩
set_option maxRecDepth 100000 in
set_option maxHeartbeats 8000000 in
theorem drawSpeedAt_any (A : Option Addr) (c : Nat) (xs : List Int) (w : World) (h : BytesAt w A c xs) :
    Calls Try.prog 5 #[.slice A xs.length c] w fun e w' => (∃ A1 c1 A2 c2 ts ls k, e = .returned (.tuple #[profV A1 (List.length ts) c1 A2 (List.length ls) c2, .int .i64 k]) ∧ ResP w' w.heap.size w'.heap.size A1 c1 A2 c2 ts ls) ∧ Below w.heap.size w w' := by
  have H := Lib.hid h; clear h
  go_enter Try.func5, Try.ntmps5
  go_wp2_with fail
  refine (drawLayerOf_any A c xs _ (H.out.below (B := w.heap.size) (by first | exact Below.refl _ _ | (go_grown; done)) (Nat.le_refl _))).mono ?_
  rintro e w1 ⟨⟨A1, c1, A2, c2, ts, ls, kk, rfl, rp⟩, hb1⟩
  have AT1 := Lib.hid rp; clear rp
  obtain ⟨T1, z1, q1, f1, x1, y1⟩ := lkeep (w := w) [w.heap.size] (by first | (simp; done) | (simp; omega)) (by go_grown) hb1
  have l1_0 := x1 (w.heap.size) (by simp)
  have BB := Lib.hid T1; clear T1
  go_wp2
  all_goals refine bodyPost_ret (by simp [results, Try.results5, go_sem, *] <;> rfl) rfl ?_
  all_goals exact ⟨⟨_, _, _, _, ts, ls, _, rfl, ResP.mono (AT1.out.kept (by repeat' (first | with_reducible exact Keep.refl _ _ _ | with_reducible refine Keep.setB ?_ ?_ _ | with_reducible refine Keep.alloc ?_ ?_ _ | with_reducible refine Keep.drew ?_ | omega | (simp; done) | (simp; omega)))) (by first | omega | (simp; done) | (simp; omega)) (by first | omega | (simp; done) | (simp; omega))⟩, (by first | with_reducible exact BB.out | (have hb_ := BB.out; go_grown; done) | (have hb_ := BB.out; exact bdrewN (by go_grown) _))⟩
end Go.Proofs.Ytbpekljemchmeaa
