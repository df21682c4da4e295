/- Soundings near a place. -/
import Derived.Test.YtbbnnahjghlnoaaSnd2
import Derived.Test.YtbbnnahjghlnoaaProf
import Derived.OwnWalk
import Derived.Maps.AppendAt
namespace Go.Proofs.Ytbbnnahjghlnoaa
set_option linter.unusedSimpArgs false
set_option linter.unusedVariables false
open Go.RowKit


def nearB (s : Snd) (x y r : Int) : Bool := decide ((s.x - x) * (s.x - x) + (s.y - y) * (s.y - y) ≤ r * r)
def nearTo (xs : List Snd) (x y r : Int) : Nat → List Int
  | 0 => []
  | k + 1 => nearTo xs x y r k ++ (match xs[k]? with | some s => if nearB s x y r then [(k : Int)] else [] | none => [])
theorem nearTo_len (xs : List Snd) (x y r : Int) : ∀ k, (nearTo xs x y r k).length ≤ k := by
  intro k
  induction k with
  | zero => simp [nearTo]
  | succ k ih =>
    rw [nearTo, List.length_append]
    have : (match xs[k]? with | some s => if nearB s x y r then [(k : Int)] else [] | none => []).length ≤ 1 := by
      split
      · split <;> simp
      · simp
    omega
theorem near_yes {xs : List Snd} {x y r a b d e : Int} {k : Nat} (h : xs[k]? = some ⟨a, b, d, e⟩) (hn : (a - x) * (a - x) + (b - y) * (b - y) ≤ r * r) : nearTo xs x y r (k + 1) = nearTo xs x y r k ++ [(k : Int)] := by
  rw [nearTo, h]; simp [nearB, hn]
theorem near_no {xs : List Snd} {x y r a b d e : Int} {k : Nat} (h : xs[k]? = some ⟨a, b, d, e⟩) (hn : r * r < (a - x) * (a - x) + (b - y) * (b - y)) : nearTo xs x y r (k + 1) = nearTo xs x y r k := by
  rw [nearTo, h]; simp [nearB]; omega
def nearE (xs : List Snd) (x y r : Int) : Int := if sndsB xs then (if inB r 0 10000 && inB x 0 10000 && inB y 0 10000 then 0 else 2) else 1
def nearL (xs : List Snd) (x y r : Int) : List Int := if nearE xs x y r = 0 then nearTo xs x y r xs.length else []
theorem near_bad {xs : List Snd} {x y r : Int} (e : Int) (h : nearE xs x y r = e) (he : e ≠ 0) : Hid (nearE xs x y r = e ∧ nearL xs x y r = []) := ⟨h, by unfold nearL; rw [h, if_neg he]⟩
theorem nearE_ok {xs : List Snd} {x y r : Int} (h1 : sndsB xs = true) (h2 : inB r 0 10000 = true) (h3 : inB x 0 10000 = true) (h4 : inB y 0 10000 = true) : nearE xs x y r = 0 := by simp [nearE, h1, h2, h3, h4]
theorem snd_xy {xs : List Snd} {k : Nat} {x y d e : Int} (hv : sndsB xs = true) (h : xs[k]? = some ⟨x, y, d, e⟩) : 0 ≤ x ∧ x ≤ 10000 ∧ 0 ≤ y ∧ y ≤ 10000 := by
  have h1 : xs.all sndP = true := by simp [sndsB] at hv; simpa using hv.1
  have h2 := List.all_eq_true.1 h1 _ (List.mem_of_getElem? h)
  simp [sndP, sndB, inB] at h2
  omega
theorem snds_len {xs : List Snd} (h : sndsB xs = true) : xs.length ≤ 200 := by simp [sndsB] at h; exact h.2

set_option maxHeartbeats 400000 in
theorem l21Within_any (a b u v r : Int) (w : World) (h1 : 0 ≤ a) (h2 : a ≤ 10000) (h3 : 0 ≤ b) (h4 : b ≤ 10000) (h5 : 0 ≤ u) (h6 : u ≤ 10000) (h7 : 0 ≤ v) (h8 : v ≤ 10000) (h9 : 0 ≤ r) (h10 : r ≤ 10000) :
    Calls Try.prog 32 #[.int .i64 a, .int .i64 b, .int .i64 u, .int .i64 v, .int .i64 r] w fun e w' => e = .returned (.bool (decide ((a - u) * (a - u) + (b - v) * (b - v) ≤ r * r))) ∧ w = w' := by
  obtain ⟨g1, g2⟩ := sq_bd (a := a - u) (m := 10000) (by omega) (by omega)
  obtain ⟨g3, g4⟩ := sq_bd (a := b - v) (m := 10000) (by omega) (by omega)
  obtain ⟨g5, g6⟩ := sq_bd (a := r) (m := 10000) (by omega) (by omega)
  go_enter Try.func32, Try.ntmps32
  go_wp2
  go_ret
  exact ⟨rfl, rfl⟩

set_option maxHeartbeats 400000 in
theorem square_any (a b : Int) (w : World) (h1 : -10000 ≤ a) (h2 : a ≤ 10000) (h3 : -10000 ≤ b) (h4 : b ≤ 10000) :
    Calls Try.prog 54 #[.int .i64 a, .int .i64 b] w fun e w' => e = .returned (.int .i64 (a * a + b * b)) ∧ w = w' := by
  obtain ⟨g1, g2⟩ := sq_bd (a := a) (m := 10000) (by omega) (by omega)
  obtain ⟨g3, g4⟩ := sq_bd (a := b) (m := 10000) (by omega) (by omega)
  go_enter Try.func54, Try.ntmps54
  go_wp2
  go_ret
  exact ⟨rfl, rfl⟩

set_option maxHeartbeats 400000 in
theorem isNear_any (a b d e u v r : Int) (w : World) (h1 : 0 ≤ a) (h2 : a ≤ 10000) (h3 : 0 ≤ b) (h4 : b ≤ 10000) (h5 : 0 ≤ u) (h6 : u ≤ 10000) (h7 : 0 ≤ v) (h8 : v ≤ 10000) (h9 : 0 ≤ r) (h10 : r ≤ 10000) :
    Calls Try.prog 39 #[sndV a b d e, .int .i64 u, .int .i64 v, .int .i64 r] w fun e w' => e = .returned (.bool (decide ((a - u) * (a - u) + (b - v) * (b - v) ≤ r * r))) ∧ Below w.heap.size w w' := by
  obtain ⟨g5, g6⟩ := sq_bd (a := r) (m := 10000) (by omega) (by omega)
  go_enter Try.func39, Try.ntmps39
  go_wp2_with fail
  refine (square_any _ _ _ (by omega) (by omega) (by omega) (by omega)).mono ?_; rintro e w' ⟨rfl, rfl⟩
  go_wp2
  go_ret
  exact ⟨rfl, by go_grown⟩

set_option maxHeartbeats 400000 in
theorem l21Code_any (A : Option Addr) (c : Nat) (xs : List Snd) (r : Int) (w : World) (hx : SndsAt w A c xs) :
    Calls Try.prog 31 #[.slice A xs.length c, .int .i64 r] w fun e w' => e = .returned (.int .i64 (if sndsB xs then (if inB r 0 10000 then 0 else 2) else 1)) ∧ Below w.heap.size w w' := by
  go_enter Try.func31, Try.ntmps31
  go_wp2_with (first
    | (go_at_call 47; refine (specAreSoundings_any _ _ _ _ hx).mono ?_; rintro e w1 ⟨rfl, hb1⟩; obtain ⟨B1, hz1, q1, s1, t1, x1, y1, z1⟩ := bkeep (w := w) [] (by first | (simp; done) | (simp; omega)) (by first | (go_grown; done) | exact bdrewN (by go_grown) _) hb1; (try simp at hz1); clear hb1)
    | (go_at_call 46; refine (l01In_any _ _ _ _).mono ?_; rintro e w' ⟨rfl, rfl⟩))
  all_goals (go_ret; exact ⟨ret_int (by simp_all), B1⟩)

set_option maxHeartbeats 1000000 in
theorem specNear_any (A : Option Addr) (c : Nat) (xs : List Snd) (x y r : Int) (w : World) (hx : SndsAt w A c xs) :
    Calls Try.prog 19 #[.slice A xs.length c, .int .i64 x, .int .i64 y, .int .i64 r] w fun e w' =>
      (∃ A' c', e = .returned (.tuple #[.slice A' (nearL xs x y r).length c', .int .i64 (nearE xs x y r)]) ∧ ResI w' w.heap.size w'.heap.size A' c' (nearL xs x y r)) ∧ Below w.heap.size w w' := by
  have hn := Nat.le_trans hx.1 hx.2.1
  have HX := Lib.hid hx; clear hx
  by_cases hv : sndsB xs = true
  · by_cases hr : inB r 0 10000 = true
    · by_cases hxx : inB x 0 10000 = true
      · by_cases hyy : inB y 0 10000 = true
        · have HE := Lib.hid (nearE_ok hv hr hxx hyy)
          have HL : Hid (nearL xs x y r = nearTo xs x y r xs.length) := by unfold nearL; rw [if_pos HE.out]; rfl
          have h200 := snds_len hv
          obtain ⟨br1, br2⟩ := inB_bd hr
          obtain ⟨bx1, bx2⟩ := inB_bd hxx
          obtain ⟨by1, by2⟩ := inB_bd hyy
          go_enter Try.func19, Try.ntmps19
          go_wp2_with (first
            | (go_at_call 31; refine (l21Code_any _ _ _ _ _ HX.out).mono ?_; rintro e w1 ⟨rfl, hb1⟩; obtain ⟨B1, hz1, q1, s1, t1, x1, y1, z1⟩ := bkeep (w := w) [] (by first | (simp; done) | (simp; omega)) (by first | (go_grown; done) | exact bdrewN (by go_grown) _) hb1; (try simp at hz1); clear hb1)
            | (go_at_call 46; refine (l01In_any _ _ _ _).mono ?_; rintro e w' ⟨rfl, rfl⟩))
          go_loopw [11, 12] (fun o i wr => Below w.heap.size w wr ∧ ∃ k : Nat, k ≤ xs.length ∧ i = .int .i64 k ∧ OwnI wr w.heap.size o (nearTo xs x y r k)) (fun _ i _ => xs.length - (intOf i).toNat)
          case atStart => exact ⟨by go_grown, 0, by omega, rfl, OwnI.zero B1.size⟩
          case round =>
            obtain ⟨Br, k, hk, rfl, A', c', rfl, hc', hown⟩ := hrel
            have HO := Lib.hid hown; clear hown
            have hln := nearTo_len xs x y r k
            have tr := bold Br; have zr := bnew Br; have sr := Br.size
            by_cases hlt : k < xs.length
            · obtain ⟨b, off, a, bb, d, e, rfl, hb, hxk, c0, c1, c2, c3⟩ := HX.out.at_ hlt
              obtain ⟨e1, e2, e3, e4⟩ := snd_xy hv hxk
              have HK := Lib.hid hxk; clear hxk
              have hk0 : (0 : Int) ≤ (k : Int) := Int.natCast_nonneg _
              have hk1 : (k : Int) < (xs.length : Int) := by omega
              by_cases hnear : (a - x) * (a - x) + (bb - y) * (bb - y) ≤ r * r
              · go_wp2_with fail
                go_region_held3 (fun w' => w'.cell? ⟨b, off + k * 4, none⟩ = some (.int .i64 a) ∧ w'.cell? ⟨b, off + k * 4 + 1, none⟩ = some (.int .i64 bb)) (go_keep)
                  ((go_at_call 32; refine (l21Within_any _ _ _ _ _ _ e1 e2 e3 e4 bx1 bx2 by1 by2 br1 br2).mono ?_; rintro e w' ⟨rfl, rfl⟩))
                go_wp2_with (at_builtin; refine app1 rfl _ _ 40 rfl w.heap.size 2 (.int .i64 0) 8 Try.underlying40 infoInt2 rfl (.int .i64 k) rfl _ _ _ rfl _ rfl (owns_below (B := wr.heap.size) HO.out ?_ (Nat.le_refl _)) ?_ ?_ ?_ ?_ ?_; (focus (first | (go_grown; done) | (refine bdrewN ?_ _; go_grown; done) | exact Below.alloc (bdrewN (Below.refl _ _) _) (Nat.le_refl _) _)); (focus (first | (simp; done) | exact (World.cell?_alloc_new (w := _) _ _ _).trans rfl)); (focus (unfold maxLen; omega)); (focus omega); (focus (first | omega | (simp; omega))); intro v2 w2 hown2 hb2)
                go_roundw
                case rel => exact ⟨Below.trans (by go_grown) hb2, k + 1, by omega, by go_num, OwnI.next (near_yes HK.out hnear) hown2⟩
                case measure => simp [intOf]; omega
              · go_wp2_with fail
                go_region_held3 (fun w' => w'.cell? ⟨b, off + k * 4, none⟩ = some (.int .i64 a) ∧ w'.cell? ⟨b, off + k * 4 + 1, none⟩ = some (.int .i64 bb)) (go_keep)
                  ((go_at_call 32; refine (l21Within_any _ _ _ _ _ _ e1 e2 e3 e4 bx1 bx2 by1 by2 br1 br2).mono ?_; rintro e w' ⟨rfl, rfl⟩))
                go_wp2
                go_roundw
                case rel => exact ⟨by go_grown, k + 1, by omega, by go_num, by rw [near_no HK.out (by omega)]; exact ⟨_, _, rfl, hc', HO.out⟩⟩
                case measure => simp [intOf]; omega
            · obtain rfl : k = xs.length := by omega
              go_wp2
              go_ret2
              exact ⟨⟨A', c', by rw [HL.out, HE.out]; rfl, by rw [HL.out]; exact OwnI.res ⟨_, _, rfl, hc', HO.out⟩⟩, Br⟩
        · have HE := near_bad (xs := xs) (x := x) (y := y) (r := r) 2 (by simp [nearE, hv, hr, hxx, hyy]) (by decide)
          go_enter Try.func19, Try.ntmps19
          go_wp2_with (first
            | (go_at_call 31; refine (l21Code_any _ _ _ _ _ HX.out).mono ?_; rintro e w1 ⟨rfl, hb1⟩; obtain ⟨B1, hz1, q1, s1, t1, x1, y1, z1⟩ := bkeep (w := w) [] (by first | (simp; done) | (simp; omega)) (by first | (go_grown; done) | exact bdrewN (by go_grown) _) hb1; (try simp at hz1); clear hb1)
            | (go_at_call 46; refine (l01In_any _ _ _ _).mono ?_; rintro e w' ⟨rfl, rfl⟩))
          go_ret2
          exact ⟨⟨none, 0, by rw [HE.out.1, HE.out.2]; rfl, by rw [HE.out.2]; exact ResI.nil _ _ _ _ _ (by omega)⟩, B1⟩
      · have HE := near_bad (xs := xs) (x := x) (y := y) (r := r) 2 (by simp [nearE, hv, hr, hxx]) (by decide)
        go_enter Try.func19, Try.ntmps19
        go_wp2_with (first
          | (go_at_call 31; refine (l21Code_any _ _ _ _ _ HX.out).mono ?_; rintro e w1 ⟨rfl, hb1⟩; obtain ⟨B1, hz1, q1, s1, t1, x1, y1, z1⟩ := bkeep (w := w) [] (by first | (simp; done) | (simp; omega)) (by first | (go_grown; done) | exact bdrewN (by go_grown) _) hb1; (try simp at hz1); clear hb1)
          | (go_at_call 46; refine (l01In_any _ _ _ _).mono ?_; rintro e w' ⟨rfl, rfl⟩))
        go_ret2
        exact ⟨⟨none, 0, by rw [HE.out.1, HE.out.2]; rfl, by rw [HE.out.2]; exact ResI.nil _ _ _ _ _ (by omega)⟩, B1⟩
    · have HE := near_bad (xs := xs) (x := x) (y := y) (r := r) 2 (by simp [nearE, hv, hr]) (by decide)
      go_enter Try.func19, Try.ntmps19
      go_wp2_with (first
        | (go_at_call 31; refine (l21Code_any _ _ _ _ _ HX.out).mono ?_; rintro e w1 ⟨rfl, hb1⟩; obtain ⟨B1, hz1, q1, s1, t1, x1, y1, z1⟩ := bkeep (w := w) [] (by first | (simp; done) | (simp; omega)) (by first | (go_grown; done) | exact bdrewN (by go_grown) _) hb1; (try simp at hz1); clear hb1))
      go_ret2
      exact ⟨⟨none, 0, by rw [HE.out.1, HE.out.2]; rfl, by rw [HE.out.2]; exact ResI.nil _ _ _ _ _ (by omega)⟩, B1⟩
  · have HE := near_bad (xs := xs) (x := x) (y := y) (r := r) 1 (by simp [nearE, hv]) (by decide)
    go_enter Try.func19, Try.ntmps19
    go_wp2_with (first
      | (go_at_call 31; refine (l21Code_any _ _ _ _ _ HX.out).mono ?_; rintro e w1 ⟨rfl, hb1⟩; obtain ⟨B1, hz1, q1, s1, t1, x1, y1, z1⟩ := bkeep (w := w) [] (by first | (simp; done) | (simp; omega)) (by first | (go_grown; done) | exact bdrewN (by go_grown) _) hb1; (try simp at hz1); clear hb1))
    go_ret2
    exact ⟨⟨none, 0, by rw [HE.out.1, HE.out.2]; rfl, by rw [HE.out.2]; exact ResI.nil _ _ _ _ _ (by omega)⟩, B1⟩

theorem field_three {w : World} (x y r : Int) : IntsAt (w.alloc (.cells #[.int .i64 x, .int .i64 y, .int .i64 r] 2)) (some ⟨w.heap.size, 0, none⟩) 3 [x, y, r] :=
  ⟨by simp, by omega, .inr ⟨_, _, rfl, by simp, fun i z hz => by rcases i with _ | _ | _ | i <;> simp at hz <;> subst hz <;> simp⟩⟩
theorem field_all (x y r : Int) : [x, y, r].all (inB · 0 10000) = (inB x 0 10000 && (inB y 0 10000 && inB r 0 10000)) := by simp

set_option maxHeartbeats 1000000 in
theorem implNear_any (A : Option Addr) (c : Nat) (xs : List Snd) (x y r : Int) (w : World) (hx : SndsAt w A c xs) :
    Calls Try.prog 18 #[.slice A xs.length c, .int .i64 x, .int .i64 y, .int .i64 r] w fun e w' =>
      (∃ A' c', e = .returned (.tuple #[.slice A' (nearL xs x y r).length c', .int .i64 (nearE xs x y r)]) ∧ ResI w' w.heap.size w'.heap.size A' c' (nearL xs x y r)) ∧ Below w.heap.size w w' := by
  have hn := Nat.le_trans hx.1 hx.2.1
  have HX := Lib.hid hx; clear hx
  by_cases hv : sndsB xs = true
  · by_cases hf : [x, y, r].all (inB · 0 10000) = true
    · have hf2 := hf
      rw [field_all] at hf2
      simp only [Bool.and_eq_true] at hf2
      obtain ⟨hxx, hyy, hr⟩ := hf2
      have HE := Lib.hid (nearE_ok hv hr hxx hyy)
      have HL : Hid (nearL xs x y r = nearTo xs x y r xs.length) := by unfold nearL; rw [if_pos HE.out]; rfl
      have h200 := snds_len hv
      obtain ⟨br1, br2⟩ := inB_bd hr
      obtain ⟨bx1, bx2⟩ := inB_bd hxx
      obtain ⟨by1, by2⟩ := inB_bd hyy
      have HV := Lib.hid hv
      clear hxx hyy hr
      go_enter Try.func18, Try.ntmps18
      go_wp2_with (first
        | (go_at_call 36; refine (implAreSoundings_any _ _ _ _ HX.out).mono ?_; rintro e w1 ⟨rfl, hb1⟩; obtain ⟨B1, hz1, q1, s1, t1, x1, y1, z1⟩ := bkeep (w := w) [] (by first | (simp; done) | (simp; omega)) (by first | (go_grown; done) | exact bdrewN (by go_grown) _) hb1; (try simp at hz1); clear hb1)
        | (go_at_call 37; refine (isField_any _ _ [x, y, r] _ (field_three x y r)).mono ?_; rintro e w' ⟨rfl, rfl⟩))
      go_loopw [10, 26] (fun o i wr => Below w.heap.size w wr ∧ ∃ k : Nat, k ≤ xs.length ∧ i = .int .i64 k ∧ OwnI wr w.heap.size o (nearTo xs x y r k)) (fun _ i _ => xs.length - (intOf i).toNat)
      case atStart => exact ⟨by go_grown, 0, by omega, rfl, OwnI.none_ _ _⟩
      case round =>
        obtain ⟨Br, k, hk, rfl, A', c', rfl, hc', hown⟩ := hrel
        have HO := Lib.hid hown; clear hown
        have hln := nearTo_len xs x y r k
        have tr := bold Br; have zr := bnew Br; have sr := Br.size
        by_cases hlt : k < xs.length
        · obtain ⟨b, off, a, bb, d, e, rfl, hb, hxk, c0, c1, c2, c3⟩ := HX.out.at_ hlt
          obtain ⟨e1, e2, e3, e4⟩ := snd_xy HV.out hxk
          have HK := Lib.hid hxk; clear hxk
          by_cases hnear : (a - x) * (a - x) + (bb - y) * (bb - y) ≤ r * r
          · go_wp2_with (first
              | (go_at_call 39; refine (isNear_any _ _ _ _ _ _ _ _ e1 e2 e3 e4 bx1 bx2 by1 by2 br1 br2).mono ?_; rintro e w1 ⟨rfl, hb1⟩; obtain ⟨B1, hz1, q1, s1, t1, x1, y1, z1⟩ := bkeep (w := wr) [] (by first | (simp; done) | (simp; omega)) (by first | (go_grown; done) | exact bdrewN (by go_grown) _) hb1; (try simp at hz1); clear hb1)
              | (at_builtin; refine app1 rfl _ _ 40 rfl w.heap.size 2 (.int .i64 0) 8 Try.underlying40 infoInt2 rfl (.int .i64 k) rfl _ _ _ rfl _ rfl (owns_below (B := wr.heap.size) HO.out ?_ (Nat.le_refl _)) ?_ ?_ ?_ ?_ ?_; (focus (first | (go_grown; done) | (refine bdrewN ?_ _; go_grown; done) | exact Below.alloc (bdrewN (Below.refl _ _) _) (Nat.le_refl _) _)); (focus (first | (simp; done) | exact (World.cell?_alloc_new (w := _) _ _ _).trans rfl)); (focus (unfold maxLen; omega)); (focus omega); (focus (first | omega | (simp; omega))); intro v2 w2 hown2 hb2))
            go_roundw
            case rel => exact ⟨Br.trans (Below.trans ((show Below wr.heap.size wr _ by go_grown).mono sr) hb2), k + 1, by omega, by go_num, OwnI.next (near_yes HK.out hnear) hown2⟩
            case measure => simp [intOf]; omega
          · go_wp2_with (first
              | (go_at_call 39; refine (isNear_any _ _ _ _ _ _ _ _ e1 e2 e3 e4 bx1 bx2 by1 by2 br1 br2).mono ?_; rintro e w1 ⟨rfl, hb1⟩; obtain ⟨B1, hz1, q1, s1, t1, x1, y1, z1⟩ := bkeep (w := wr) [] (by first | (simp; done) | (simp; omega)) (by first | (go_grown; done) | exact bdrewN (by go_grown) _) hb1; (try simp at hz1); clear hb1))
            go_roundw
            case rel => exact ⟨Br.trans (B1.mono sr), k + 1, by omega, by go_num, by rw [near_no HK.out (by omega)]; exact (show OwnI wr w.heap.size _ _ from ⟨_, _, rfl, hc', HO.out⟩).below (by go_grown) (Nat.le_refl _)⟩
            case measure => simp [intOf]; omega
        · obtain rfl : k = xs.length := by omega
          go_wp2
          go_ret2
          exact ⟨⟨A', c', by rw [HL.out, HE.out]; rfl, by rw [HL.out]; exact OwnI.res ⟨_, _, rfl, hc', HO.out⟩⟩, Br⟩
    · have hf2 := hf
      rw [field_all] at hf2
      have HE := near_bad (xs := xs) (x := x) (y := y) (r := r) 2 (by simp only [nearE, hv, if_true]; rw [if_neg]; intro h; apply hf2; simp only [Bool.and_eq_true] at h ⊢; exact ⟨h.1.2, h.2, h.1.1⟩) (by decide)
      clear hf2
      go_enter Try.func18, Try.ntmps18
      go_wp2_with (first
        | (go_at_call 36; refine (implAreSoundings_any _ _ _ _ HX.out).mono ?_; rintro e w1 ⟨rfl, hb1⟩; obtain ⟨B1, hz1, q1, s1, t1, x1, y1, z1⟩ := bkeep (w := w) [] (by first | (simp; done) | (simp; omega)) (by first | (go_grown; done) | exact bdrewN (by go_grown) _) hb1; (try simp at hz1); clear hb1)
        | (go_at_call 37; refine (isField_any _ _ [x, y, r] _ (field_three x y r)).mono ?_; rintro e w' ⟨rfl, rfl⟩))
      go_ret2
      exact ⟨⟨none, 0, by rw [HE.out.1, HE.out.2]; rfl, by rw [HE.out.2]; exact ResI.nil _ _ _ _ _ (by omega)⟩, by go_grown⟩
  · have HE := near_bad (xs := xs) (x := x) (y := y) (r := r) 1 (by simp [nearE, hv]) (by decide)
    go_enter Try.func18, Try.ntmps18
    go_wp2_with (first
      | (go_at_call 36; refine (implAreSoundings_any _ _ _ _ HX.out).mono ?_; rintro e w1 ⟨rfl, hb1⟩; obtain ⟨B1, hz1, q1, s1, t1, x1, y1, z1⟩ := bkeep (w := w) [] (by first | (simp; done) | (simp; omega)) (by first | (go_grown; done) | exact bdrewN (by go_grown) _) hb1; (try simp at hz1); clear hb1))
    go_ret2
    exact ⟨⟨none, 0, by rw [HE.out.1, HE.out.2]; rfl, by rw [HE.out.2]; exact ResI.nil _ _ _ _ _ (by omega)⟩, B1⟩


end Go.Proofs.Ytbbnnahjghlnoaa
