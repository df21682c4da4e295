/- Soundings near a place. -/
import Derived.Test.YtakkhnihcfhcdaaSnd2
import Derived.Test.YtakkhnihcfhcdaaProf
import Derived.OwnWalk
import Derived.Maps.AppendAt
namespace Go.Proofs.Ytakkhnihcfhcdaa
set_option linter.unusedSimpArgs false
set_option linter.unusedVariables false
open Go.RowKit

theorem sq_bd {a m : Int} (h1 : -m ≤ a) (h2 : a ≤ m) : 0 ≤ a * a ∧ a * a ≤ m * m := by
  have hm : 0 ≤ m := by omega
  rcases Int.le_total 0 a with h | h
  · exact ⟨Int.mul_nonneg h h, Int.mul_le_mul h2 h2 h hm⟩
  · have e : a * a = (-a) * (-a) := by rw [Int.neg_mul_neg]
    rw [e]
    exact ⟨Int.mul_nonneg (by omega) (by omega), Int.mul_le_mul (by omega) (by omega) (by omega) hm⟩

def nearB (s : Snd) (x y r : Int) : Bool := decide ((s.x - x) * (s.x - x) + (s.y - y) * (s.y - y) ≤ r * r)
def nearTo (xs : List Snd) (x y r : Int) : Nat → List Int
  | 0 => []
  | k + 1 => nearTo xs x y r k ++ (match xs[k]? with | some s => if nearB s x y r then [(k : Int)] else [] | none => [])
theorem nearTo_len (xs : List Snd) (x y r : Int) : ∀ k, (nearTo xs x y r k).length ≤ k := by
  intro k
  induction k with
  | zero => simp [nearTo]
  | succ k ih =>
    rw [nearTo, List.length_append]
    have : (match xs[k]? with | some s => if nearB s x y r then [(k : Int)] else [] | none => []).length ≤ 1 := by
      split
      · split <;> simp
      · simp
    omega
theorem near_yes {xs : List Snd} {x y r a b d e : Int} {k : Nat} (h : xs[k]? = some ⟨a, b, d, e⟩) (hn : (a - x) * (a - x) + (b - y) * (b - y) ≤ r * r) : nearTo xs x y r (k + 1) = nearTo xs x y r k ++ [(k : Int)] := by
  rw [nearTo, h]; simp [nearB, hn]
theorem near_no {xs : List Snd} {x y r a b d e : Int} {k : Nat} (h : xs[k]? = some ⟨a, b, d, e⟩) (hn : r * r < (a - x) * (a - x) + (b - y) * (b - y)) : nearTo xs x y r (k + 1) = nearTo xs x y r k := by
  rw [nearTo, h]; simp [nearB]; omega
def nearE (xs : List Snd) (x y r : Int) : Int := if sndsB xs then (if inB r 0 10000 && inB x 0 10000 && inB y 0 10000 then 0 else 2) else 1
def nearL (xs : List Snd) (x y r : Int) : List Int := if nearE xs x y r = 0 then nearTo xs x y r xs.length else []
theorem near_bad {xs : List Snd} {x y r : Int} (e : Int) (h : nearE xs x y r = e) (he : e ≠ 0) : Hid (nearE xs x y r = e ∧ nearL xs x y r = []) := ⟨h, by unfold nearL; rw [h, if_neg he]⟩
theorem nearE_ok {xs : List Snd} {x y r : Int} (h1 : sndsB xs = true) (h2 : inB r 0 10000 = true) (h3 : inB x 0 10000 = true) (h4 : inB y 0 10000 = true) : nearE xs x y r = 0 := by simp [nearE, h1, h2, h3, h4]
theorem snd_xy {xs : List Snd} {k : Nat} {x y d e : Int} (hv : sndsB xs = true) (h : xs[k]? = some ⟨x, y, d, e⟩) : 0 ≤ x ∧ x ≤ 10000 ∧ 0 ≤ y ∧ y ≤ 10000 := by
  have h1 : xs.all sndP = true := by simp [sndsB] at hv; simpa using hv.1
  have h2 := List.all_eq_true.1 h1 _ (List.mem_of_getElem? h)
  simp [sndP, sndB, inB] at h2
  omega
theorem snds_len {xs : List Snd} (h : sndsB xs = true) : xs.length ≤ 200 := by simp [sndsB] at h; exact h.2

set_option maxHeartbeats 400000 in
theorem l21Within_any (a b u v r : Int) (w : World) (h1 : 0 ≤ a) (h2 : a ≤ 10000) (h3 : 0 ≤ b) (h4 : b ≤ 10000) (h5 : 0 ≤ u) (h6 : u ≤ 10000) (h7 : 0 ≤ v) (h8 : v ≤ 10000) (h9 : 0 ≤ r) (h10 : r ≤ 10000) :
    Calls Try.prog 55 #[.int .i64 a, .int .i64 b, .int .i64 u, .int .i64 v, .int .i64 r] w fun e w' => e = .returned (.bool (decide ((a - u) * (a - u) + (b - v) * (b - v) ≤ r * r))) ∧ w = w' := by
  obtain ⟨g1, g2⟩ := sq_bd (a := a - u) (m := 10000) (by omega) (by omega)
  obtain ⟨g3, g4⟩ := sq_bd (a := b - v) (m := 10000) (by omega) (by omega)
  obtain ⟨g5, g6⟩ := sq_bd (a := r) (m := 10000) (by omega) (by omega)
  go_enter Try.func55, Try.ntmps55
  go_wp2
  go_ret
  exact ⟨rfl, rfl⟩

set_option maxHeartbeats 400000 in
theorem square_any (a b : Int) (w : World) (h1 : -10000 ≤ a) (h2 : a ≤ 10000) (h3 : -10000 ≤ b) (h4 : b ≤ 10000) :
    Calls Try.prog 68 #[.int .i64 a, .int .i64 b] w fun e w' => e = .returned (.int .i64 (a * a + b * b)) ∧ w = w' := by
  obtain ⟨g1, g2⟩ := sq_bd (a := a) (m := 10000) (by omega) (by omega)
  obtain ⟨g3, g4⟩ := sq_bd (a := b) (m := 10000) (by omega) (by omega)
  go_enter Try.func68, Try.ntmps68
  go_wp2
  go_ret
  exact ⟨rfl, rfl⟩

set_option maxHeartbeats 400000 in
theorem isNear_any (a b d e u v r : Int) (w : World) (h1 : 0 ≤ a) (h2 : a ≤ 10000) (h3 : 0 ≤ b) (h4 : b ≤ 10000) (h5 : 0 ≤ u) (h6 : u ≤ 10000) (h7 : 0 ≤ v) (h8 : v ≤ 10000) (h9 : 0 ≤ r) (h10 : r ≤ 10000) :
    Calls Try.prog 57 #[sndV a b d e, .int .i64 u, .int .i64 v, .int .i64 r] w fun e w' => e = .returned (.bool (decide ((a - u) * (a - u) + (b - v) * (b - v) ≤ r * r))) ∧ Below w.heap.size w w' := by
  obtain ⟨g5, g6⟩ := sq_bd (a := r) (m := 10000) (by omega) (by omega)
  go_enter Try.func57, Try.ntmps57
  go_wp2_with fail
  refine (square_any _ _ _ (by omega) (by omega) (by omega) (by omega)).mono ?_; rintro e w' ⟨rfl, rfl⟩
  go_wp2
  go_ret
  exact ⟨rfl, by go_grown⟩

set_option maxHeartbeats 400000 in
theorem l21Code_any (A : Option Addr) (c : Nat) (xs : List Snd) (r : Int) (w : World) (hx : SndsAt w A c xs) :
    Calls Try.prog 54 #[.slice A xs.length c, .int .i64 r] w fun e w' => e = .returned (.int .i64 (if sndsB xs then (if inB r 0 10000 then 0 else 2) else 1)) ∧ Below w.heap.size w w' := by
  go_enter Try.func54, Try.ntmps54
  go_wp2_with (first
    | (go_at_call 14; refine (specAreSoundings_any _ _ _ _ hx).mono ?_; rintro e w1 ⟨rfl, hb1⟩; obtain ⟨B1, hz1, q1, s1, t1, x1, y1, z1⟩ := bkeep (w := w) [] (by first | (simp; done) | (simp; omega)) (by first | (go_grown; done) | exact bdrewN (by go_grown) _) hb1; (try simp at hz1); clear hb1)
    | (go_at_call 51; refine (l01In_any _ _ _ _).mono ?_; rintro e w' ⟨rfl, rfl⟩))
  all_goals (go_ret; exact ⟨ret_int (by simp_all), B1⟩)

set_option maxHeartbeats 1000000 in
theorem specNear_any (A : Option Addr) (c : Nat) (xs : List Snd) (x y r : Int) (w : World) (hx : SndsAt w A c xs) :
    Calls Try.prog 32 #[.slice A xs.length c, .int .i64 x, .int .i64 y, .int .i64 r] w fun e w' =>
      (∃ A' c', e = .returned (.tuple #[.slice A' (nearL xs x y r).length c', .int .i64 (nearE xs x y r)]) ∧ ResI w' w.heap.size w'.heap.size A' c' (nearL xs x y r)) ∧ Below w.heap.size w w' := by
  have hn := Nat.le_trans hx.1 hx.2.1
  have HX := Lib.hid hx; clear hx
  by_cases hv : sndsB xs = true
  · by_cases hr : inB r 0 10000 = true
    · by_cases hxx : inB x 0 10000 = true
      · by_cases hyy : inB y 0 10000 = true
        · have HE := Lib.hid (nearE_ok hv hr hxx hyy)
          have HL : Hid (nearL xs x y r = nearTo xs x y r xs.length) := by unfold nearL; rw [if_pos HE.out]; rfl
          have h200 := snds_len hv
          obtain ⟨br1, br2⟩ := inB_bd hr
          obtain ⟨bx1, bx2⟩ := inB_bd hxx
          obtain ⟨by1, by2⟩ := inB_bd hyy
          go_enter Try.func32, Try.ntmps32
          go_wp2_with (first
            | (go_at_call 54; refine (l21Code_any _ _ _ _ _ HX.out).mono ?_; rintro e w1 ⟨rfl, hb1⟩; obtain ⟨B1, hz1, q1, s1, t1, x1, y1, z1⟩ := bkeep (w := w) [] (by first | (simp; done) | (simp; omega)) (by first | (go_grown; done) | exact bdrewN (by go_grown) _) hb1; (try simp at hz1); clear hb1)
            | (go_at_call 51; refine (l01In_any _ _ _ _).mono ?_; rintro e w' ⟨rfl, rfl⟩))
          go_loopw [11, 12] (fun o i wr => Below w.heap.size w wr ∧ ∃ k : Nat, k ≤ xs.length ∧ i = .int .i64 k ∧ OwnI wr w.heap.size o (nearTo xs x y r k)) (fun _ i _ => xs.length - (intOf i).toNat)
          case atStart => exact ⟨by go_grown, 0, by omega, rfl, OwnI.zero B1.size⟩
          case round =>
            obtain ⟨Br, k, hk, rfl, A', c', rfl, hc', hown⟩ := hrel
            have HO := Lib.hid hown; clear hown
            have hln := nearTo_len xs x y r k
            have tr := bold Br; have zr := bnew Br; have sr := Br.size
            by_cases hlt : k < xs.length
            · obtain ⟨b, off, a, bb, d, e, rfl, hb, hxk, c0, c1, c2, c3⟩ := HX.out.at_ hlt
              obtain ⟨e1, e2, e3, e4⟩ := snd_xy hv hxk
              have HK := Lib.hid hxk; clear hxk
              have hk0 : (0 : Int) ≤ (k : Int) := Int.natCast_nonneg _
              have hk1 : (k : Int) < (xs.length : Int) := by omega
              by_cases hnear : (a - x) * (a - x) + (bb - y) * (bb - y) ≤ r * r
              · go_wp2_with fail
                go_region_held3 (fun w' => w'.cell? ⟨b, off + k * 4, none⟩ = some (.int .i64 a) ∧ w'.cell? ⟨b, off + k * 4 + 1, none⟩ = some (.int .i64 bb)) (go_keep)
                  ((go_at_call 55; refine (l21Within_any _ _ _ _ _ _ e1 e2 e3 e4 bx1 bx2 by1 by2 br1 br2).mono ?_; rintro e w' ⟨rfl, rfl⟩))
                go_wp2_with (at_builtin; refine app1 rfl _ _ 41 rfl w.heap.size 2 (.int .i64 0) 8 Try.underlying41 infoInt2 rfl (.int .i64 k) rfl _ _ _ rfl _ rfl (owns_below (B := wr.heap.size) HO.out ?_ (Nat.le_refl _)) ?_ ?_ ?_ ?_ ?_; (focus (first | (go_grown; done) | (refine bdrewN ?_ _; go_grown; done))); (focus (simp; done)); (focus (unfold maxLen; omega)); (focus omega); (focus (first | omega | (simp; omega))); intro v2 w2 hown2 hb2)
                go_roundw
                case rel => exact ⟨Below.trans (by go_grown) hb2, k + 1, by omega, by go_num, OwnI.next (near_yes HK.out hnear) hown2⟩
                case measure => simp [intOf]; omega
              · go_wp2_with fail
                go_region_held3 (fun w' => w'.cell? ⟨b, off + k * 4, none⟩ = some (.int .i64 a) ∧ w'.cell? ⟨b, off + k * 4 + 1, none⟩ = some (.int .i64 bb)) (go_keep)
                  ((go_at_call 55; refine (l21Within_any _ _ _ _ _ _ e1 e2 e3 e4 bx1 bx2 by1 by2 br1 br2).mono ?_; rintro e w' ⟨rfl, rfl⟩))
                go_wp2
                go_roundw
                case rel => exact ⟨by go_grown, k + 1, by omega, by go_num, by rw [near_no HK.out (by omega)]; exact ⟨_, _, rfl, hc', HO.out⟩⟩
                case measure => simp [intOf]; omega
            · obtain rfl : k = xs.length := by omega
              go_wp2
              go_ret2
              exact ⟨⟨A', c', by rw [HL.out, HE.out]; rfl, by rw [HL.out]; exact OwnI.res ⟨_, _, rfl, hc', HO.out⟩⟩, Br⟩
        · have HE := near_bad (xs := xs) (x := x) (y := y) (r := r) 2 (by simp [nearE, hv, hr, hxx, hyy]) (by decide)
          go_enter Try.func32, Try.ntmps32
          go_wp2_with (first
            | (go_at_call 54; refine (l21Code_any _ _ _ _ _ HX.out).mono ?_; rintro e w1 ⟨rfl, hb1⟩; obtain ⟨B1, hz1, q1, s1, t1, x1, y1, z1⟩ := bkeep (w := w) [] (by first | (simp; done) | (simp; omega)) (by first | (go_grown; done) | exact bdrewN (by go_grown) _) hb1; (try simp at hz1); clear hb1)
            | (go_at_call 51; refine (l01In_any _ _ _ _).mono ?_; rintro e w' ⟨rfl, rfl⟩))
          go_ret2
          exact ⟨⟨none, 0, by rw [HE.out.1, HE.out.2]; rfl, by rw [HE.out.2]; exact ResI.nil _ _ _ _ _ (by omega)⟩, B1⟩
      · have HE := near_bad (xs := xs) (x := x) (y := y) (r := r) 2 (by simp [nearE, hv, hr, hxx]) (by decide)
        go_enter Try.func32, Try.ntmps32
        go_wp2_with (first
          | (go_at_call 54; refine (l21Code_any _ _ _ _ _ HX.out).mono ?_; rintro e w1 ⟨rfl, hb1⟩; obtain ⟨B1, hz1, q1, s1, t1, x1, y1, z1⟩ := bkeep (w := w) [] (by first | (simp; done) | (simp; omega)) (by first | (go_grown; done) | exact bdrewN (by go_grown) _) hb1; (try simp at hz1); clear hb1)
          | (go_at_call 51; refine (l01In_any _ _ _ _).mono ?_; rintro e w' ⟨rfl, rfl⟩))
        go_ret2
        exact ⟨⟨none, 0, by rw [HE.out.1, HE.out.2]; rfl, by rw [HE.out.2]; exact ResI.nil _ _ _ _ _ (by omega)⟩, B1⟩
    · have HE := near_bad (xs := xs) (x := x) (y := y) (r := r) 2 (by simp [nearE, hv, hr]) (by decide)
      go_enter Try.func32, Try.ntmps32
      go_wp2_with (first
        | (go_at_call 54; refine (l21Code_any _ _ _ _ _ HX.out).mono ?_; rintro e w1 ⟨rfl, hb1⟩; obtain ⟨B1, hz1, q1, s1, t1, x1, y1, z1⟩ := bkeep (w := w) [] (by first | (simp; done) | (simp; omega)) (by first | (go_grown; done) | exact bdrewN (by go_grown) _) hb1; (try simp at hz1); clear hb1))
      go_ret2
      exact ⟨⟨none, 0, by rw [HE.out.1, HE.out.2]; rfl, by rw [HE.out.2]; exact ResI.nil _ _ _ _ _ (by omega)⟩, B1⟩
  · have HE := near_bad (xs := xs) (x := x) (y := y) (r := r) 1 (by simp [nearE, hv]) (by decide)
    go_enter Try.func32, Try.ntmps32
    go_wp2_with (first
      | (go_at_call 54; refine (l21Code_any _ _ _ _ _ HX.out).mono ?_; rintro e w1 ⟨rfl, hb1⟩; obtain ⟨B1, hz1, q1, s1, t1, x1, y1, z1⟩ := bkeep (w := w) [] (by first | (simp; done) | (simp; omega)) (by first | (go_grown; done) | exact bdrewN (by go_grown) _) hb1; (try simp at hz1); clear hb1))
    go_ret2
    exact ⟨⟨none, 0, by rw [HE.out.1, HE.out.2]; rfl, by rw [HE.out.2]; exact ResI.nil _ _ _ _ _ (by omega)⟩, B1⟩

theorem field_three {w : World} (x y r : Int) : IntsAt (w.alloc (.cells #[.int .i64 x, .int .i64 y, .int .i64 r] 2)) (some ⟨w.heap.size, 0, none⟩) 3 [x, y, r] :=
  ⟨by simp, by omega, .inr ⟨_, _, rfl, by simp, fun i z hz => by rcases i with _ | _ | _ | i <;> simp at hz <;> subst hz <;> simp⟩⟩
theorem field_all (x y r : Int) : [x, y, r].all (inB · 0 10000) = (inB x 0 10000 && (inB y 0 10000 && inB r 0 10000)) := by simp

set_option maxHeartbeats 1000000 in
theorem implNear_any (A : Option Addr) (c : Nat) (xs : List Snd) (x y r : Int) (w : World) (hx : SndsAt w A c xs) :
    Calls Try.prog 33 #[.slice A xs.length c, .int .i64 x, .int .i64 y, .int .i64 r] w fun e w' =>
      (∃ A' c', e = .returned (.tuple #[.slice A' (nearL xs x y r).length c', .int .i64 (nearE xs x y r)]) ∧ ResI w' w.heap.size w'.heap.size A' c' (nearL xs x y r)) ∧ Below w.heap.size w w' := by
  have hn := Nat.le_trans hx.1 hx.2.1
  have HX := Lib.hid hx; clear hx
  by_cases hv : sndsB xs = true
  · by_cases hf : [x, y, r].all (inB · 0 10000) = true
    · have hf2 := hf
      rw [field_all] at hf2
      simp only [Bool.and_eq_true] at hf2
      obtain ⟨hxx, hyy, hr⟩ := hf2
      have HE := Lib.hid (nearE_ok hv hr hxx hyy)
      have HL : Hid (nearL xs x y r = nearTo xs x y r xs.length) := by unfold nearL; rw [if_pos HE.out]; rfl
      have h200 := snds_len hv
      obtain ⟨br1, br2⟩ := inB_bd hr
      obtain ⟨bx1, bx2⟩ := inB_bd hxx
      obtain ⟨by1, by2⟩ := inB_bd hyy
      have HV := Lib.hid hv
      clear hxx hyy hr
      go_enter Try.func33, Try.ntmps33
      go_wp2_with (first
        | (go_at_call 16; refine (implAreSoundings_any _ _ _ _ HX.out).mono ?_; rintro e w1 ⟨rfl, hb1⟩; obtain ⟨B1, hz1, q1, s1, t1, x1, y1, z1⟩ := bkeep (w := w) [] (by first | (simp; done) | (simp; omega)) (by first | (go_grown; done) | exact bdrewN (by go_grown) _) hb1; (try simp at hz1); clear hb1)
        | (go_at_call 56; refine (isField_any _ _ [x, y, r] _ (field_three x y r)).mono ?_; rintro e w' ⟨rfl, rfl⟩))
      go_loopw [10, 26] (fun o i wr => Below w.heap.size w wr ∧ ∃ k : Nat, k ≤ xs.length ∧ i = .int .i64 k ∧ OwnI wr w.heap.size o (nearTo xs x y r k)) (fun _ i _ => xs.length - (intOf i).toNat)
      case atStart => exact ⟨by go_grown, 0, by omega, rfl, OwnI.none_ _ _⟩
      case round =>
        obtain ⟨Br, k, hk, rfl, A', c', rfl, hc', hown⟩ := hrel
        have HO := Lib.hid hown; clear hown
        have hln := nearTo_len xs x y r k
        have tr := bold Br; have zr := bnew Br; have sr := Br.size
        by_cases hlt : k < xs.length
        · obtain ⟨b, off, a, bb, d, e, rfl, hb, hxk, c0, c1, c2, c3⟩ := HX.out.at_ hlt
          obtain ⟨e1, e2, e3, e4⟩ := snd_xy HV.out hxk
          have HK := Lib.hid hxk; clear hxk
          by_cases hnear : (a - x) * (a - x) + (bb - y) * (bb - y) ≤ r * r
          · go_wp2_with (first
              | (go_at_call 57; refine (isNear_any _ _ _ _ _ _ _ _ e1 e2 e3 e4 bx1 bx2 by1 by2 br1 br2).mono ?_; rintro e w1 ⟨rfl, hb1⟩; obtain ⟨B1, hz1, q1, s1, t1, x1, y1, z1⟩ := bkeep (w := wr) [] (by first | (simp; done) | (simp; omega)) (by first | (go_grown; done) | exact bdrewN (by go_grown) _) hb1; (try simp at hz1); clear hb1)
              | (at_builtin; refine app1 rfl _ _ 41 rfl w.heap.size 2 (.int .i64 0) 8 Try.underlying41 infoInt2 rfl (.int .i64 k) rfl _ _ _ rfl _ rfl (owns_below (B := wr.heap.size) HO.out ?_ (Nat.le_refl _)) ?_ ?_ ?_ ?_ ?_; (focus (first | (go_grown; done) | (refine bdrewN ?_ _; go_grown; done))); (focus (simp; done)); (focus (unfold maxLen; omega)); (focus omega); (focus (first | omega | (simp; omega))); intro v2 w2 hown2 hb2))
            go_roundw
            case rel => exact ⟨Br.trans (Below.trans ((show Below wr.heap.size wr _ by go_grown).mono sr) hb2), k + 1, by omega, by go_num, OwnI.next (near_yes HK.out hnear) hown2⟩
            case measure => simp [intOf]; omega
          · go_wp2_with (first
              | (go_at_call 57; refine (isNear_any _ _ _ _ _ _ _ _ e1 e2 e3 e4 bx1 bx2 by1 by2 br1 br2).mono ?_; rintro e w1 ⟨rfl, hb1⟩; obtain ⟨B1, hz1, q1, s1, t1, x1, y1, z1⟩ := bkeep (w := wr) [] (by first | (simp; done) | (simp; omega)) (by first | (go_grown; done) | exact bdrewN (by go_grown) _) hb1; (try simp at hz1); clear hb1))
            go_roundw
            case rel => exact ⟨Br.trans (B1.mono sr), k + 1, by omega, by go_num, by rw [near_no HK.out (by omega)]; exact (show OwnI wr w.heap.size _ _ from ⟨_, _, rfl, hc', HO.out⟩).below (by go_grown) (Nat.le_refl _)⟩
            case measure => simp [intOf]; omega
        · obtain rfl : k = xs.length := by omega
          go_wp2
          go_ret2
          exact ⟨⟨A', c', by rw [HL.out, HE.out]; rfl, by rw [HL.out]; exact OwnI.res ⟨_, _, rfl, hc', HO.out⟩⟩, Br⟩
    · have hf2 := hf
      rw [field_all] at hf2
      have HE := near_bad (xs := xs) (x := x) (y := y) (r := r) 2 (by simp only [nearE, hv, if_true]; rw [if_neg]; intro h; apply hf2; simp only [Bool.and_eq_true] at h ⊢; exact ⟨h.1.2, h.2, h.1.1⟩) (by decide)
      clear hf2
      go_enter Try.func33, Try.ntmps33
      go_wp2_with (first
        | (go_at_call 16; refine (implAreSoundings_any _ _ _ _ HX.out).mono ?_; rintro e w1 ⟨rfl, hb1⟩; obtain ⟨B1, hz1, q1, s1, t1, x1, y1, z1⟩ := bkeep (w := w) [] (by first | (simp; done) | (simp; omega)) (by first | (go_grown; done) | exact bdrewN (by go_grown) _) hb1; (try simp at hz1); clear hb1)
        | (go_at_call 56; refine (isField_any _ _ [x, y, r] _ (field_three x y r)).mono ?_; rintro e w' ⟨rfl, rfl⟩))
      go_ret2
      exact ⟨⟨none, 0, by rw [HE.out.1, HE.out.2]; rfl, by rw [HE.out.2]; exact ResI.nil _ _ _ _ _ (by omega)⟩, by go_grown⟩
  · have HE := near_bad (xs := xs) (x := x) (y := y) (r := r) 1 (by simp [nearE, hv]) (by decide)
    go_enter Try.func33, Try.ntmps33
    go_wp2_with (first
      | (go_at_call 16; refine (implAreSoundings_any _ _ _ _ HX.out).mono ?_; rintro e w1 ⟨rfl, hb1⟩; obtain ⟨B1, hz1, q1, s1, t1, x1, y1, z1⟩ := bkeep (w := w) [] (by first | (simp; done) | (simp; omega)) (by first | (go_grown; done) | exact bdrewN (by go_grown) _) hb1; (try simp at hz1); clear hb1))
    go_ret2
    exact ⟨⟨none, 0, by rw [HE.out.1, HE.out.2]; rfl, by rw [HE.out.2]; exact ResI.nil _ _ _ _ _ (by omega)⟩, B1⟩


set_option maxHeartbeats 2000000 in
theorem lawNear_any (A : Option Addr) (c : Nat) (xs : List Snd) (x y r : Int) (w : World) (hx : SndsAt w A c xs) :
    Calls Try.prog 8 #[.slice A xs.length c, .int .i64 x, .int .i64 y, .int .i64 r] w fun e w' => e = .returned (.bool true) ∧ Below w.heap.size w w' := by
  have hn := Nat.le_trans hx.1 hx.2.1
  have HX := Lib.hid hx; clear hx
  by_cases hs0 : xs.length ≤ 1048576
  · skip
    have hz : ¬ ((1048576 : Int) - xs.length < 0) := by omega
    have hL : (nearL xs x y r).length ≤ 1048576 := by unfold nearL; split <;> first | (have := nearTo_len xs x y r xs.length; omega) | simp
    have hL0 : (0 : Int) ≤ (nearL xs x y r).length := Int.natCast_nonneg _
    have hx0 : (0 : Int) ≤ xs.length := Int.natCast_nonneg _
    go_enter Try.func8, Try.ntmps8
    go_wp2_with fail
    refine (szSoundingS_any _ _ _ _ _ (by omega) (by omega) hn).mono ?_; rintro e w' ⟨rfl, rfl⟩
    go_wp2_with fail
    refine (toSoundingS_any _ _ _ _ (HX.out.below (B := w.heap.size) (by first | exact Below.refl _ _ | (go_grown; done)) (Nat.le_refl _)) hs0).mono ?_; rintro e w1 ⟨⟨g1, rfl, R1⟩, hb1⟩
    obtain ⟨T1, z1, q1, s1, x1, y1⟩ := lkeep (w := w) [] (by first | (simp; done) | (simp; omega)) (by first | exact Below.refl _ _ | (go_grown; done)) hb1
    have S1 := Lib.hid T1; clear T1 hb1
    have B1 := Lib.hid S1.out
    have b1 : w.heap.size ≤ w1.heap.size := B1.out.size
    have M0_1 := Lib.hid (R1.mono (show w.heap.size ≤ _ by first | (simp; done) | (simp; omega)) (Nat.le_refl _)); clear R1
    go_wp2_with fail
    refine (specNear_any _ _ _ _ _ _ _ (M0_1.out.at.below (B := w1.heap.size) (by first | exact Below.refl _ _ | (go_grown; done)) (Nat.le_refl _))).mono ?_; rintro e w2 ⟨⟨A2, c2, rfl, R2⟩, hb2⟩
    obtain ⟨T2, z2, q2, s2, x2, y2⟩ := lkeep (w := w1) [] (by first | (simp; done) | (simp; omega)) (by first | exact Below.refl _ _ | (go_grown; done)) hb2
    have S2 := Lib.hid T2; clear T2 hb2
    have B2 := Lib.hid (B1.out.trans (S2.out.mono (by omega)))
    have b2 : w.heap.size ≤ w2.heap.size := B2.out.size
    have M0_2 := Lib.hid (M0_1.out.below S2.out (by omega))
    have K_2 := Lib.hid (R2.mono (show w1.heap.size ≤ _ by first | (simp; done) | (simp; omega)) (Nat.le_refl _)); clear R2
    go_wp2_with fail
    refine (toSoundingS_any _ _ _ _ ((HX.out.below B2.out (Nat.le_refl _)).below (B := w2.heap.size) (by first | exact Below.refl _ _ | (go_grown; done)) (Nat.le_refl _)) hs0).mono ?_; rintro e w3 ⟨⟨g3, rfl, R3⟩, hb3⟩
    obtain ⟨T3, z3, q3, s3, x3, y3⟩ := lkeep (w := w2) [] (by first | (simp; done) | (simp; omega)) (by first | exact Below.refl _ _ | (go_grown; done)) hb3
    have S3 := Lib.hid T3; clear T3 hb3
    have B3 := Lib.hid (B2.out.trans (S3.out.mono (by omega)))
    have b3 : w.heap.size ≤ w3.heap.size := B3.out.size
    have K_3 := Lib.hid (K_2.out.below S3.out (by omega))
    have X0_3 := Lib.hid (R3.mono (show w2.heap.size ≤ _ by first | (simp; done) | (simp; omega)) (Nat.le_refl _)); clear R3
    go_wp2_with fail
    refine (implNear_any _ _ _ _ _ _ _ (X0_3.out.at.below (B := w3.heap.size) (by first | exact Below.refl _ _ | (go_grown; done)) (Nat.le_refl _))).mono ?_; rintro e w4 ⟨⟨A4, c4, rfl, R4⟩, hb4⟩
    obtain ⟨T4, z4, q4, s4, x4, y4⟩ := lkeep (w := w3) [] (by first | (simp; done) | (simp; omega)) (by first | exact Below.refl _ _ | (go_grown; done)) hb4
    have S4 := Lib.hid T4; clear T4 hb4
    have B4 := Lib.hid (B3.out.trans (S4.out.mono (by omega)))
    have b4 : w.heap.size ≤ w4.heap.size := B4.out.size
    have K_4 := Lib.hid (K_3.out.below S4.out (by omega))
    have X0_4 := Lib.hid (X0_3.out.below S4.out (by omega))
    have J_4 := Lib.hid (R4.mono (show w3.heap.size ≤ _ by first | (simp; done) | (simp; omega)) (Nat.le_refl _)); clear R4
    go_wp2_with fail
    refine (eqInt64S_same _ _ _ _ _ _ (J_4.out.at.below (B := w4.heap.size) (by first | exact Below.refl _ _ | (go_grown; done)) (Nat.le_refl _)) (K_4.out.at.below (B := w4.heap.size) (by first | exact Below.refl _ _ | (go_grown; done)) (Nat.le_refl _))).mono ?_; rintro e w5 ⟨rfl, hb5⟩
    obtain ⟨T5, z5, q5, s5, x5, y5⟩ := lkeep (w := w4) [] (by first | (simp; done) | (simp; omega)) (by first | exact Below.refl _ _ | (go_grown; done)) hb5
    have S5 := Lib.hid T5; clear T5 hb5
    have B5 := Lib.hid (B4.out.trans (S5.out.mono (by omega)))
    have b5 : w.heap.size ≤ w5.heap.size := B5.out.size
    have K_5 := Lib.hid (K_4.out.below S5.out (by omega))
    have X0_5 := Lib.hid (X0_4.out.below S5.out (by omega))
    have J_5 := Lib.hid (J_4.out.below S5.out (by omega))
    go_wp2_with fail
    refine (toSoundingS_any _ _ _ _ ((HX.out.below B5.out (Nat.le_refl _)).below (B := w5.heap.size) (by first | exact Below.refl _ _ | (go_grown; done)) (Nat.le_refl _)) hs0).mono ?_; rintro e w6 ⟨⟨g6, rfl, R6⟩, hb6⟩
    obtain ⟨T6, z6, q6, s6, x6, y6⟩ := lkeep (w := w5) [] (by first | (simp; done) | (simp; omega)) (by first | exact Below.refl _ _ | (go_grown; done)) hb6
    have S6 := Lib.hid T6; clear T6 hb6
    have B6 := Lib.hid (B5.out.trans (S6.out.mono (by omega)))
    have b6 : w.heap.size ≤ w6.heap.size := B6.out.size
    have K_6 := Lib.hid (K_5.out.below S6.out (by omega))
    have X0_6 := Lib.hid (X0_5.out.below S6.out (by omega))
    have J_6 := Lib.hid (J_5.out.below S6.out (by omega))
    have Y_6 := Lib.hid (R6.mono (show w5.heap.size ≤ _ by first | (simp; done) | (simp; omega)) (Nat.le_refl _)); clear R6
    go_wp2_with fail
    refine (eqSoundingS_same _ _ _ _ _ _ (X0_6.out.at.below (B := w6.heap.size) (by first | exact Below.refl _ _ | (go_grown; done)) (Nat.le_refl _)) (Y_6.out.at.below (B := w6.heap.size) (by first | exact Below.refl _ _ | (go_grown; done)) (Nat.le_refl _))).mono ?_; rintro e w7 ⟨rfl, hb7⟩
    obtain ⟨T7, z7, q7, s7, x7, y7⟩ := lkeep (w := w6) [] (by first | (simp; done) | (simp; omega)) (by first | exact Below.refl _ _ | (go_grown; done)) hb7
    have S7 := Lib.hid T7; clear T7 hb7
    have B7 := Lib.hid (B6.out.trans (S7.out.mono (by omega)))
    have b7 : w.heap.size ≤ w7.heap.size := B7.out.size
    have K_7 := Lib.hid (K_6.out.below S7.out (by omega))
    have X0_7 := Lib.hid (X0_6.out.below S7.out (by omega))
    have J_7 := Lib.hid (J_6.out.below S7.out (by omega))
    have Y_7 := Lib.hid (Y_6.out.below S7.out (by omega))
    go_wp2_with fail
    refine (markSoundingS_any _ _ _ _ _ _ _ X0_7.out (by omega) (by omega) (by omega)).mono ?_; rintro e w8 ⟨rfl, hb8⟩
    obtain ⟨z8, q8, s8, x8, y8⟩ := ckeep [] (by first | (simp; done) | (simp; omega)) hb8
    have C8 := Lib.hid hb8; clear hb8
    have B8 := Lib.hid (B7.out.trans (C8.out.below (by omega)))
    have b8 : w.heap.size ≤ w8.heap.size := B8.out.size
    have K_8 := Lib.hid (K_7.out.chg C8.out (by omega))
    have J_8 := Lib.hid (J_7.out.chg C8.out (by omega))
    go_wp2_with fail
    refine (eqInt64S_same _ _ _ _ _ _ (J_8.out.at.below (B := w8.heap.size) (by first | exact Below.refl _ _ | (go_grown; done)) (Nat.le_refl _)) (K_8.out.at.below (B := w8.heap.size) (by first | exact Below.refl _ _ | (go_grown; done)) (Nat.le_refl _))).mono ?_; rintro e w9 ⟨rfl, hb9⟩
    obtain ⟨T9, z9, q9, s9, x9, y9⟩ := lkeep (w := w8) [] (by first | (simp; done) | (simp; omega)) (by first | exact Below.refl _ _ | (go_grown; done)) hb9
    have S9 := Lib.hid T9; clear T9 hb9
    have B9 := Lib.hid (B8.out.trans (S9.out.mono (by omega)))
    have b9 : w.heap.size ≤ w9.heap.size := B9.out.size
    have K_9 := Lib.hid (K_8.out.below S9.out (by omega))
    have J_9 := Lib.hid (J_8.out.below S9.out (by omega))
    go_wp2_with fail
    refine (markInt64S_any _ _ _ _ _ _ _ J_9.out (by omega) (by omega) (by omega)).mono ?_; rintro e w10 ⟨rfl, R10, hb10⟩
    obtain ⟨z10, q10, s10, x10, y10⟩ := ckeep [] (by first | (simp; done) | (simp; omega)) hb10
    have C10 := Lib.hid hb10; clear hb10
    have B10 := Lib.hid (B9.out.trans (C10.out.below (by omega)))
    have b10 : w.heap.size ≤ w10.heap.size := B10.out.size
    have K_10 := Lib.hid (K_9.out.chg C10.out (by omega))
    have J_10 := Lib.hid R10; clear R10
    go_wp2_with fail
    refine (heldInt64S_any _ _ _ _ _ J_10.out.at (by omega) (by omega) (by omega)).mono ?_; rintro e w' ⟨rfl, rfl⟩
    go_wp2_with fail
    refine (toSoundingS_any _ _ _ _ ((HX.out.below B10.out (Nat.le_refl _)).below (B := w10.heap.size) (by first | exact Below.refl _ _ | (go_grown; done)) (Nat.le_refl _)) hs0).mono ?_; rintro e w11 ⟨⟨g11, rfl, R11⟩, hb11⟩
    obtain ⟨T11, z11, q11, s11, x11, y11⟩ := lkeep (w := w10) [] (by first | (simp; done) | (simp; omega)) (by first | exact Below.refl _ _ | (go_grown; done)) hb11
    have S11 := Lib.hid T11; clear T11 hb11
    have B11 := Lib.hid (B10.out.trans (S11.out.mono (by omega)))
    have b11 : w.heap.size ≤ w11.heap.size := B11.out.size
    have K_11 := Lib.hid (K_10.out.below S11.out (by omega))
    have J_11 := Lib.hid (J_10.out.below S11.out (by omega))
    have Z0_11 := Lib.hid (R11.mono (show w10.heap.size ≤ _ by first | (simp; done) | (simp; omega)) (Nat.le_refl _)); clear R11
    go_wp2_with fail
    refine (implNear_any _ _ _ _ _ _ _ (Z0_11.out.at.below (B := w11.heap.size) (by first | exact Below.refl _ _ | (go_grown; done)) (Nat.le_refl _))).mono ?_; rintro e w12 ⟨⟨A12, c12, rfl, R12⟩, hb12⟩
    obtain ⟨T12, z12, q12, s12, x12, y12⟩ := lkeep (w := w11) [] (by first | (simp; done) | (simp; omega)) (by first | exact Below.refl _ _ | (go_grown; done)) hb12
    have S12 := Lib.hid T12; clear T12 hb12
    have B12 := Lib.hid (B11.out.trans (S12.out.mono (by omega)))
    have b12 : w.heap.size ≤ w12.heap.size := B12.out.size
    have K_12 := Lib.hid (K_11.out.below S12.out (by omega))
    have J_12 := Lib.hid (J_11.out.below S12.out (by omega))
    have Z0_12 := Lib.hid (Z0_11.out.below S12.out (by omega))
    have L_12 := Lib.hid (R12.mono (show w11.heap.size ≤ _ by first | (simp; done) | (simp; omega)) (Nat.le_refl _)); clear R12
    go_wp2_with fail
    refine (eqInt64S_same _ _ _ _ _ _ (L_12.out.at.below (B := w12.heap.size) (by first | exact Below.refl _ _ | (go_grown; done)) (Nat.le_refl _)) (K_12.out.at.below (B := w12.heap.size) (by first | exact Below.refl _ _ | (go_grown; done)) (Nat.le_refl _))).mono ?_; rintro e w13 ⟨rfl, hb13⟩
    obtain ⟨T13, z13, q13, s13, x13, y13⟩ := lkeep (w := w12) [] (by first | (simp; done) | (simp; omega)) (by first | exact Below.refl _ _ | (go_grown; done)) hb13
    have S13 := Lib.hid T13; clear T13 hb13
    have B13 := Lib.hid (B12.out.trans (S13.out.mono (by omega)))
    have b13 : w.heap.size ≤ w13.heap.size := B13.out.size
    have K_13 := Lib.hid (K_12.out.below S13.out (by omega))
    have J_13 := Lib.hid (J_12.out.below S13.out (by omega))
    have L_13 := Lib.hid (L_12.out.below S13.out (by omega))
    go_wp2_with fail
    refine (heldInt64S_any _ _ _ _ _ J_13.out.at (by omega) (by omega) (by omega)).mono ?_; rintro e w' ⟨rfl, rfl⟩
    go_wp2_with fail
    go_ret
    exact ⟨rfl, B13.out⟩
  · skip
    have hz : (1048576 : Int) - xs.length < 0 := by omega
    go_enter Try.func8, Try.ntmps8
    go_wp2_with fail
    refine (szSoundingS_any _ _ _ _ _ (by omega) (by omega) hn).mono ?_; rintro e w' ⟨rfl, rfl⟩
    go_wp2_with fail
    go_ret
    exact ⟨rfl, Below.refl _ _⟩
end Go.Proofs.Ytakkhnihcfhcdaa
