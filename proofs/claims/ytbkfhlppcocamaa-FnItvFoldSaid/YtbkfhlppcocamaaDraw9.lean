/-
  The reference's draws, on: two ends (DrawItvFold). No conditions but bounds on how far the reader has come, and that the bounds are bounds.
-/
import Derived.Test.YtbkfhlppcocamaaDraw5
import Derived.IntWalk
namespace Go.Proofs.Ytbkfhlppcocamaa
set_option linter.unusedSimpArgs false
set_option linter.unusedVariables false
open Go.ChangeShapes Go.WideShapes Go.ChangeAt Go.RowKit

/-- Two integers, and all that was there as it was. -/
def DrawsN2 (w : World) (e : Ending) (w' : World) : Prop := ∃ x y : Int, e = .returned (.tuple #[.int .i64 x, .int .i64 y]) ∧ Below w.heap.size w w'
set_option maxRecDepth 100000 in
set_option maxHeartbeats 8000000 in
theorem drawItvFold_s (a : Option Addr) (len cap : Nat) (z : List Int) (w : World) (hrow : IsRow .u8 w a len cap z) :
    Calls Try.prog 33 #[.slice a len cap] w (DrawsN2 w) := by
  go_enter Try.func33, Try.ntmps33
  go_wp2_with fail
  refine (open_s _ _ _ _ _ hrow).mono ?_
  rintro e wI ⟨rfl, hR0, hbI⟩
  have hU0 := But.refl w.heap.size wI
  have hq0 := hR0.lt
  go_wp2_with fail
  refine (l20Raw_s _ _ _ hR0 (by omega)).mono ?_
  rintro e w1 ⟨lo, p1, rfl, hlo, hp1a, hp1b, hR1, hb1⟩
  have hU1 : But w.heap.size wI w1 := hU0.trans hb1
  have hq1 := hR1.lt
  clear hb1 hR0 hU0
  go_wp2_with fail
  refine (pick_s _ _ 3 _ hR1 (by omega) (by unfold I64; omega)).mono ?_
  rintro e w2 ⟨x, p2, rfl, hx2, hp2a, hp2b, hR2, hb2⟩
  have hU2 : But w.heap.size wI w2 := hU1.trans hb2
  have hq2 := hR2.lt
  have hxx : x = 0 ∨ (0 < x) := by rcases lt3 hx2 with k | k | k <;> omega
  clear hb2 hR1 hU1 hx2
  have hcase : x = 0 ∨ (0 < x ∧ (decide (-1099511627776 ≤ lo) && decide (lo ≤ 1099511627776)) = true) ∨ (0 < x ∧ (decide (-1099511627776 ≤ lo) && decide (lo ≤ 1099511627776)) = false) := by
    rcases hxx with k | k
    · exact .inl k
    · rcases Bool.eq_false_or_eq_true (decide (-1099511627776 ≤ lo) && decide (lo ≤ 1099511627776)) with e | e
      · exact .inr (.inl ⟨k, e⟩)
      · exact .inr (.inr ⟨k, e⟩)
  clear hxx
  rcases hcase with rfl | ⟨hx0, hl⟩ | ⟨hx0, hl⟩
  rotate_left
  · have Hl := Lib.hid hl
    clear hl
    go_wp2_with (go_at_call 55; refine (l1In_s _ _ _ _).mono ?_; rw [Hl.out]; rintro e w' ⟨rfl, rfl⟩)
    go_upto_region 4 with fail
    go_cut [2, 3] (fun s2 s3 wx => ∃ y z : Int, s2 = .int .i64 y ∧ s3 = .int .i64 z ∧ Below w.heap.size w wx)
    case first =>
      have TT1 := Lib.hid (fun x (h0 : 0 ≤ x) (h1 : x < 6) => tab6 0 1 65535 65536 300 (-1) x (i64_small (by omega)) (i64_small (by omega)) (i64_small (by omega)) (i64_small (by omega)) (i64_small (by omega)) (i64_small (by omega)) h0 h1)
      go_region_with (go_at_call 49; refine (pick_s _ _ 6 _ (by (repeat' (first | with_reducible exact hR2 | with_reducible apply Rd.alloc | with_reducible apply Rd.drew | with_reducible apply Rd.drewN))) (by omega) (by unfold I64; omega)).mono ?_; rintro e w3 ⟨x3, p3, rfl, hx3, hp3a, hp3b, hR3, hb3⟩; have hs3 := hb3.size; (try simp only [World.size_alloc, World.size_setCell, World.size_drew] at hs3); have hq3 := hR3.lt; (try have ma3w2 : w2.heap.size < w3.heap.size := (by omega)); (try have mb3w2 : w2.heap.size + 1 < w3.heap.size := (by omega)); (try have mc3w2 : w.heap.size < w2.heap.size + 1 := (by omega)); have hU3 : But w.heap.size wI w3 := But.trans (by (repeat' (first | with_reducible exact hU2 | with_reducible refine But.alloc ?_ _ | with_reducible refine But.drew ?_ | with_reducible refine But.drewN ?_ _))) hb3; have hc3 := butcell hb3; have hy3 := hx3.1; have hv3 := hx3.2.1 (by omega); obtain ⟨y3, T3, hyy3⟩ := TT1.out x3 hy3 hv3; clear hb3 hs3 hx3)
      all_goals go_wp2_with fail
      all_goals go_meet
      all_goals have hB3 : Below w.heap.size w w3 := hU3.to_below hbI (Nat.le_refl _) hbI.size
      all_goals exact ⟨_, _, rfl, rfl, by ((try go_split_ands); go_grown)⟩
    case rest =>
      obtain ⟨y, z, rfl, rfl, hB⟩ := hcut
      go_wp2_with fail
      go_ret2
      unfold DrawsN2
      exact ⟨_, _, rfl, hB⟩
  all_goals
    try
      have Hl := Lib.hid hl
      clear hl
    go_wp2_with (go_at_call 55; refine (l1In_s _ _ _ _).mono ?_; rw [Hl.out]; rintro e w' ⟨rfl, rfl⟩)
    refine (pick_s _ _ 8 _ hR2 (by omega) (by unfold I64; omega)).mono ?_
    rintro e w3 ⟨x, p3, rfl, hx3, hp3a, hp3b, hR3, hb3⟩
    have hU3 : But w.heap.size wI w3 := hU2.trans hb3
    have hq3 := hR3.lt
    have hxx : x = 0 ∨ (0 < x) := by rcases lt8 hx3 with k | k | k | k | k | k | k | k <;> omega
    clear hb3 hR2 hU2 hx3
    rcases hxx with rfl | hx3
    · go_upto_region 6 with fail
      go_cut [2, 3] (fun s2 s3 wx => ∃ y z : Int, s2 = .int .i64 y ∧ s3 = .int .i64 z ∧ Below w.heap.size w wx)
      case first =>
        have TT1 := Lib.hid (fun x (h0 : 0 ≤ x) (h1 : x < 3) => tab3 (-1099511627776) (-1099511627777) 0 x (i64_small (by omega)) (i64_small (by omega)) (i64_small (by omega)) h0 h1)
        have TT2 := Lib.hid (fun x (h0 : 0 ≤ x) (h1 : x < 3) => tab3 1099511627776 1099511627777 5 x (i64_small (by omega)) (i64_small (by omega)) (i64_small (by omega)) h0 h1)
        have tok0 : True := trivial
        go_region_with (first | (have tok1 := tok0; clear tok0; go_at_call 49; refine (pick_s _ _ 3 _ (by (repeat' (first | with_reducible exact hR3 | with_reducible apply Rd.alloc | with_reducible apply Rd.drew | with_reducible apply Rd.drewN))) (by omega) (by unfold I64; omega)).mono ?_; rintro e w4 ⟨x4, p4, rfl, hx4, hp4a, hp4b, hR4, hb4⟩; have hs4 := hb4.size; (try simp only [World.size_alloc, World.size_setCell, World.size_drew] at hs4); have hq4 := hR4.lt; (try have ma4w3 : w3.heap.size < w4.heap.size := (by omega)); (try have mb4w3 : w3.heap.size + 1 < w4.heap.size := (by omega)); (try have mc4w3 : w.heap.size < w3.heap.size + 1 := (by omega)); have hU4 : But w.heap.size wI w4 := But.trans (by (repeat' (first | with_reducible exact hU3 | with_reducible refine But.alloc ?_ _ | with_reducible refine But.drew ?_ | with_reducible refine But.drewN ?_ _))) hb4; have hc4 := butcell hb4; have hy4 := hx4.1; have hv4 := hx4.2.1 (by omega); obtain ⟨y4, T4, hyy4⟩ := TT1.out x4 hy4 hv4; clear hb4 hs4 hx4) | (go_at_call 49; refine (pick_s _ _ 3 _ (by (repeat' (first | with_reducible exact hR4 | with_reducible apply Rd.alloc | with_reducible apply Rd.drew | with_reducible apply Rd.drewN))) (by omega) (by unfold I64; omega)).mono ?_; rintro e w5 ⟨x5, p5, rfl, hx5, hp5a, hp5b, hR5, hb5⟩; have hs5 := hb5.size; (try simp only [World.size_alloc, World.size_setCell, World.size_drew] at hs5); have hq5 := hR5.lt; (try have ma5w3 : w3.heap.size < w5.heap.size := (by omega)); (try have mb5w3 : w3.heap.size + 1 < w5.heap.size := (by omega)); (try have mc5w3 : w.heap.size < w3.heap.size + 1 := (by omega)); (try have ma5w4 : w4.heap.size < w5.heap.size := (by omega)); (try have mb5w4 : w4.heap.size + 1 < w5.heap.size := (by omega)); (try have mc5w4 : w.heap.size < w4.heap.size + 1 := (by omega)); have hU5 : But w.heap.size wI w5 := But.trans (by (repeat' (first | with_reducible exact hU4 | with_reducible refine But.alloc ?_ _ | with_reducible refine But.drew ?_ | with_reducible refine But.drewN ?_ _))) hb5; have hc5 := butcell hb5; have hy5 := hx5.1; have hv5 := hx5.2.1 (by omega); obtain ⟨y5, T5, hyy5⟩ := TT2.out x5 hy5 hv5; clear hb5 hs5 hx5))
        all_goals go_wp2_with fail
        all_goals go_meet
        all_goals have hB5 : Below w.heap.size w w5 := hU5.to_below hbI (Nat.le_refl _) hbI.size
        all_goals exact ⟨_, _, rfl, rfl, by ((try go_split_ands); go_grown)⟩
      case rest =>
        obtain ⟨y, z, rfl, rfl, hB⟩ := hcut
        go_wp2_with fail
        go_ret2
        unfold DrawsN2
        exact ⟨_, _, rfl, hB⟩
    · go_wp2_with fail
      refine (l20Raw_s _ _ _ hR3 (by omega)).mono ?_
      rintro e w4 ⟨hi, p4, rfl, hhi, hp4a, hp4b, hR4, hb4⟩
      have hU4 : But w.heap.size wI w4 := hU3.trans hb4
      have hB4 : Below w.heap.size w w4 := hU4.to_below hbI (Nat.le_refl _) hbI.size
      clear hb4
      go_wp2_with fail
      go_ret2
      unfold DrawsN2
      exact ⟨_, _, rfl, hB4⟩
end Go.Proofs.Ytbkfhlppcocamaa
