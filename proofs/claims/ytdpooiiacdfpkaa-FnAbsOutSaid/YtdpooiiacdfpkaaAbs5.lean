/-
  The program's reading of an abstract state to which something comes, by contract. No conditions but those that each theorem says.
-/
import Derived.Test.YtdpooiiacdfpkaaAbs4
namespace Go.Proofs.Ytdpooiiacdfpkaa
set_option linter.unusedSimpArgs false
set_option linter.unusedVariables false
open Go.ChangeShapes Go.WideShapes Go.ChangeAt Go.RowKit Go.Sort

set_option maxRecDepth 100000 in
set_option maxHeartbeats 8000000 in
theorem readState_no (a : Option Addr) (len cap : Nat) (lo hi : Int) (z : List (Int × Int)) (w : World) (hz : RdI w a len z) (hl : len ≤ 1048576) (hn : absOk true z (lo, hi) = false) : Calls Try.prog 31 #[.agg #[.bool true, .slice a len cap, .int .i64 lo, .int .i64 hi]] w fun e w' => e = .returned (.tuple #[.pointer none, .bool false]) ∧ Below w.heap.size w w' := by
  have Hsz := Lib.hid hz.1
  have HZ := Lib.hid hz
  by_cases h4 : len = 4
  · subst h4
    rcases Bool.eq_false_or_eq_true (okI (lo, hi)) with hc | hc
    · have hb : (!z.all okI) = true := by
        unfold absOk at hn
        simp [Hsz.out, hc] at hn
        simp only [Bool.not_eq_true']
        rw [List.all_eq_false]
        obtain ⟨x, y, h1, h2⟩ := hn
        exact ⟨(x, y), h1, by simp [h2]⟩
      have HB := Lib.hid hb
      have Hc := Lib.hid hc
      clear hc hb hn hz
      go_enter Try.func31, Try.ntmps31
      go_wp2_with (first
        | (go_at_call 55; refine (ok_ix Hc.out _).mono ?_; rintro e w' ⟨rfl, hb⟩; have hs0 := hb.size; have hB : Below w.heap.size w w' := below_on (by ((try go_split_ands); go_grown)) hb; have hz := hB.size; have hc := bcell hb; (try simp only [World.size_alloc, World.size_setCell, World.size_drew] at hs0); (first | have m0 := up_7 m0 (show _ ≤ w'.heap.size by omega) | have m0 := up_6 m0 (show _ ≤ w'.heap.size by omega) | have m0 := up_5 m0 (show _ ≤ w'.heap.size by omega) | have m0 := up_4 m0 (show _ ≤ w'.heap.size by omega) | have m0 := up_3 m0 (show _ ≤ w'.heap.size by omega) | have m0 := up_2 m0 (show _ ≤ w'.heap.size by omega) | have m0 := up_1 m0 (show _ ≤ w'.heap.size by omega) | skip); (first | have m1 := up_7 m1 (show _ ≤ w'.heap.size by omega) | have m1 := up_6 m1 (show _ ≤ w'.heap.size by omega) | have m1 := up_5 m1 (show _ ≤ w'.heap.size by omega) | have m1 := up_4 m1 (show _ ≤ w'.heap.size by omega) | have m1 := up_3 m1 (show _ ≤ w'.heap.size by omega) | have m1 := up_2 m1 (show _ ≤ w'.heap.size by omega) | have m1 := up_1 m1 (show _ ≤ w'.heap.size by omega) | skip); (first | have m2 := up_7 m2 (show _ ≤ w'.heap.size by omega) | have m2 := up_6 m2 (show _ ≤ w'.heap.size by omega) | have m2 := up_5 m2 (show _ ≤ w'.heap.size by omega) | have m2 := up_4 m2 (show _ ≤ w'.heap.size by omega) | have m2 := up_3 m2 (show _ ≤ w'.heap.size by omega) | have m2 := up_2 m2 (show _ ≤ w'.heap.size by omega) | have m2 := up_1 m2 (show _ ≤ w'.heap.size by omega) | skip); (first | have m3 := up_7 m3 (show _ ≤ w'.heap.size by omega) | have m3 := up_6 m3 (show _ ≤ w'.heap.size by omega) | have m3 := up_5 m3 (show _ ≤ w'.heap.size by omega) | have m3 := up_4 m3 (show _ ≤ w'.heap.size by omega) | have m3 := up_3 m3 (show _ ≤ w'.heap.size by omega) | have m3 := up_2 m3 (show _ ≤ w'.heap.size by omega) | have m3 := up_1 m3 (show _ ≤ w'.heap.size by omega) | skip); (first | have m4 := up_7 m4 (show _ ≤ w'.heap.size by omega) | have m4 := up_6 m4 (show _ ≤ w'.heap.size by omega) | have m4 := up_5 m4 (show _ ≤ w'.heap.size by omega) | have m4 := up_4 m4 (show _ ≤ w'.heap.size by omega) | have m4 := up_3 m4 (show _ ≤ w'.heap.size by omega) | have m4 := up_2 m4 (show _ ≤ w'.heap.size by omega) | have m4 := up_1 m4 (show _ ≤ w'.heap.size by omega) | skip); (first | have m5 := up_7 m5 (show _ ≤ w'.heap.size by omega) | have m5 := up_6 m5 (show _ ≤ w'.heap.size by omega) | have m5 := up_5 m5 (show _ ≤ w'.heap.size by omega) | have m5 := up_4 m5 (show _ ≤ w'.heap.size by omega) | have m5 := up_3 m5 (show _ ≤ w'.heap.size by omega) | have m5 := up_2 m5 (show _ ≤ w'.heap.size by omega) | have m5 := up_1 m5 (show _ ≤ w'.heap.size by omega) | skip); (first | (have mm := lt_7 hs0; (try have m5 := m4); (try have m4 := m3); (try have m3 := m2); (try have m2 := m1); (try have m1 := m0); have m0 := mm) | (have mm := lt_6 hs0; (try have m5 := m4); (try have m4 := m3); (try have m3 := m2); (try have m2 := m1); (try have m1 := m0); have m0 := mm) | (have mm := lt_5 hs0; (try have m5 := m4); (try have m4 := m3); (try have m3 := m2); (try have m2 := m1); (try have m1 := m0); have m0 := mm) | (have mm := lt_4 hs0; (try have m5 := m4); (try have m4 := m3); (try have m3 := m2); (try have m2 := m1); (try have m1 := m0); have m0 := mm) | (have mm := lt_3 hs0; (try have m5 := m4); (try have m4 := m3); (try have m3 := m2); (try have m2 := m1); (try have m1 := m0); have m0 := mm) | (have mm := lt_2 hs0; (try have m5 := m4); (try have m4 := m3); (try have m3 := m2); (try have m2 := m1); (try have m1 := m0); have m0 := mm) | (have mm := lt_1 hs0; (try have m5 := m4); (try have m4 := m3); (try have m3 := m2); (try have m2 := m1); (try have m1 := m0); have m0 := mm) | skip); clear hs0; clear hb)
        | (go_at_call 56; refine (containsBad _ HB.out (HZ.out.below hB) hl).mono ?_; rintro e w' ⟨rfl, hb⟩; have hs0 := hb.size; have hB : Below w.heap.size w w' := below_on (by ((try go_split_ands); go_grown)) hb; have hz := hB.size; have hc := bcell hb; (try simp only [World.size_alloc, World.size_setCell, World.size_drew] at hs0); (first | have m0 := up_7 m0 (show _ ≤ w'.heap.size by omega) | have m0 := up_6 m0 (show _ ≤ w'.heap.size by omega) | have m0 := up_5 m0 (show _ ≤ w'.heap.size by omega) | have m0 := up_4 m0 (show _ ≤ w'.heap.size by omega) | have m0 := up_3 m0 (show _ ≤ w'.heap.size by omega) | have m0 := up_2 m0 (show _ ≤ w'.heap.size by omega) | have m0 := up_1 m0 (show _ ≤ w'.heap.size by omega) | skip); (first | have m1 := up_7 m1 (show _ ≤ w'.heap.size by omega) | have m1 := up_6 m1 (show _ ≤ w'.heap.size by omega) | have m1 := up_5 m1 (show _ ≤ w'.heap.size by omega) | have m1 := up_4 m1 (show _ ≤ w'.heap.size by omega) | have m1 := up_3 m1 (show _ ≤ w'.heap.size by omega) | have m1 := up_2 m1 (show _ ≤ w'.heap.size by omega) | have m1 := up_1 m1 (show _ ≤ w'.heap.size by omega) | skip); (first | have m2 := up_7 m2 (show _ ≤ w'.heap.size by omega) | have m2 := up_6 m2 (show _ ≤ w'.heap.size by omega) | have m2 := up_5 m2 (show _ ≤ w'.heap.size by omega) | have m2 := up_4 m2 (show _ ≤ w'.heap.size by omega) | have m2 := up_3 m2 (show _ ≤ w'.heap.size by omega) | have m2 := up_2 m2 (show _ ≤ w'.heap.size by omega) | have m2 := up_1 m2 (show _ ≤ w'.heap.size by omega) | skip); (first | have m3 := up_7 m3 (show _ ≤ w'.heap.size by omega) | have m3 := up_6 m3 (show _ ≤ w'.heap.size by omega) | have m3 := up_5 m3 (show _ ≤ w'.heap.size by omega) | have m3 := up_4 m3 (show _ ≤ w'.heap.size by omega) | have m3 := up_3 m3 (show _ ≤ w'.heap.size by omega) | have m3 := up_2 m3 (show _ ≤ w'.heap.size by omega) | have m3 := up_1 m3 (show _ ≤ w'.heap.size by omega) | skip); (first | have m4 := up_7 m4 (show _ ≤ w'.heap.size by omega) | have m4 := up_6 m4 (show _ ≤ w'.heap.size by omega) | have m4 := up_5 m4 (show _ ≤ w'.heap.size by omega) | have m4 := up_4 m4 (show _ ≤ w'.heap.size by omega) | have m4 := up_3 m4 (show _ ≤ w'.heap.size by omega) | have m4 := up_2 m4 (show _ ≤ w'.heap.size by omega) | have m4 := up_1 m4 (show _ ≤ w'.heap.size by omega) | skip); (first | have m5 := up_7 m5 (show _ ≤ w'.heap.size by omega) | have m5 := up_6 m5 (show _ ≤ w'.heap.size by omega) | have m5 := up_5 m5 (show _ ≤ w'.heap.size by omega) | have m5 := up_4 m5 (show _ ≤ w'.heap.size by omega) | have m5 := up_3 m5 (show _ ≤ w'.heap.size by omega) | have m5 := up_2 m5 (show _ ≤ w'.heap.size by omega) | have m5 := up_1 m5 (show _ ≤ w'.heap.size by omega) | skip); (first | (have mm := lt_7 hs0; (try have m5 := m4); (try have m4 := m3); (try have m3 := m2); (try have m2 := m1); (try have m1 := m0); have m0 := mm) | (have mm := lt_6 hs0; (try have m5 := m4); (try have m4 := m3); (try have m3 := m2); (try have m2 := m1); (try have m1 := m0); have m0 := mm) | (have mm := lt_5 hs0; (try have m5 := m4); (try have m4 := m3); (try have m3 := m2); (try have m2 := m1); (try have m1 := m0); have m0 := mm) | (have mm := lt_4 hs0; (try have m5 := m4); (try have m4 := m3); (try have m3 := m2); (try have m2 := m1); (try have m1 := m0); have m0 := mm) | (have mm := lt_3 hs0; (try have m5 := m4); (try have m4 := m3); (try have m3 := m2); (try have m2 := m1); (try have m1 := m0); have m0 := mm) | (have mm := lt_2 hs0; (try have m5 := m4); (try have m4 := m3); (try have m3 := m2); (try have m2 := m1); (try have m1 := m0); have m0 := mm) | (have mm := lt_1 hs0; (try have m5 := m4); (try have m4 := m3); (try have m3 := m2); (try have m2 := m1); (try have m1 := m0); have m0 := mm) | skip); clear hs0; clear hb))
      all_goals go_ret2
      all_goals exact ⟨rfl, by ((try go_split_ands); go_grown)⟩
    · have Hc := Lib.hid hc
      clear hc hn hz
      go_enter Try.func31, Try.ntmps31
      go_wp2_with (go_at_call 55; refine (ok_ix Hc.out _).mono ?_; rintro e w' ⟨rfl, hb⟩; have hs0 := hb.size; have hB : Below w.heap.size w w' := below_on (by ((try go_split_ands); go_grown)) hb; have hz := hB.size; have hc := bcell hb; (try simp only [World.size_alloc, World.size_setCell, World.size_drew] at hs0); (first | have m0 := up_7 m0 (show _ ≤ w'.heap.size by omega) | have m0 := up_6 m0 (show _ ≤ w'.heap.size by omega) | have m0 := up_5 m0 (show _ ≤ w'.heap.size by omega) | have m0 := up_4 m0 (show _ ≤ w'.heap.size by omega) | have m0 := up_3 m0 (show _ ≤ w'.heap.size by omega) | have m0 := up_2 m0 (show _ ≤ w'.heap.size by omega) | have m0 := up_1 m0 (show _ ≤ w'.heap.size by omega) | skip); (first | have m1 := up_7 m1 (show _ ≤ w'.heap.size by omega) | have m1 := up_6 m1 (show _ ≤ w'.heap.size by omega) | have m1 := up_5 m1 (show _ ≤ w'.heap.size by omega) | have m1 := up_4 m1 (show _ ≤ w'.heap.size by omega) | have m1 := up_3 m1 (show _ ≤ w'.heap.size by omega) | have m1 := up_2 m1 (show _ ≤ w'.heap.size by omega) | have m1 := up_1 m1 (show _ ≤ w'.heap.size by omega) | skip); (first | have m2 := up_7 m2 (show _ ≤ w'.heap.size by omega) | have m2 := up_6 m2 (show _ ≤ w'.heap.size by omega) | have m2 := up_5 m2 (show _ ≤ w'.heap.size by omega) | have m2 := up_4 m2 (show _ ≤ w'.heap.size by omega) | have m2 := up_3 m2 (show _ ≤ w'.heap.size by omega) | have m2 := up_2 m2 (show _ ≤ w'.heap.size by omega) | have m2 := up_1 m2 (show _ ≤ w'.heap.size by omega) | skip); (first | have m3 := up_7 m3 (show _ ≤ w'.heap.size by omega) | have m3 := up_6 m3 (show _ ≤ w'.heap.size by omega) | have m3 := up_5 m3 (show _ ≤ w'.heap.size by omega) | have m3 := up_4 m3 (show _ ≤ w'.heap.size by omega) | have m3 := up_3 m3 (show _ ≤ w'.heap.size by omega) | have m3 := up_2 m3 (show _ ≤ w'.heap.size by omega) | have m3 := up_1 m3 (show _ ≤ w'.heap.size by omega) | skip); (first | have m4 := up_7 m4 (show _ ≤ w'.heap.size by omega) | have m4 := up_6 m4 (show _ ≤ w'.heap.size by omega) | have m4 := up_5 m4 (show _ ≤ w'.heap.size by omega) | have m4 := up_4 m4 (show _ ≤ w'.heap.size by omega) | have m4 := up_3 m4 (show _ ≤ w'.heap.size by omega) | have m4 := up_2 m4 (show _ ≤ w'.heap.size by omega) | have m4 := up_1 m4 (show _ ≤ w'.heap.size by omega) | skip); (first | have m5 := up_7 m5 (show _ ≤ w'.heap.size by omega) | have m5 := up_6 m5 (show _ ≤ w'.heap.size by omega) | have m5 := up_5 m5 (show _ ≤ w'.heap.size by omega) | have m5 := up_4 m5 (show _ ≤ w'.heap.size by omega) | have m5 := up_3 m5 (show _ ≤ w'.heap.size by omega) | have m5 := up_2 m5 (show _ ≤ w'.heap.size by omega) | have m5 := up_1 m5 (show _ ≤ w'.heap.size by omega) | skip); (first | (have mm := lt_7 hs0; (try have m5 := m4); (try have m4 := m3); (try have m3 := m2); (try have m2 := m1); (try have m1 := m0); have m0 := mm) | (have mm := lt_6 hs0; (try have m5 := m4); (try have m4 := m3); (try have m3 := m2); (try have m2 := m1); (try have m1 := m0); have m0 := mm) | (have mm := lt_5 hs0; (try have m5 := m4); (try have m4 := m3); (try have m3 := m2); (try have m2 := m1); (try have m1 := m0); have m0 := mm) | (have mm := lt_4 hs0; (try have m5 := m4); (try have m4 := m3); (try have m3 := m2); (try have m2 := m1); (try have m1 := m0); have m0 := mm) | (have mm := lt_3 hs0; (try have m5 := m4); (try have m4 := m3); (try have m3 := m2); (try have m2 := m1); (try have m1 := m0); have m0 := mm) | (have mm := lt_2 hs0; (try have m5 := m4); (try have m4 := m3); (try have m3 := m2); (try have m2 := m1); (try have m1 := m0); have m0 := mm) | (have mm := lt_1 hs0; (try have m5 := m4); (try have m4 := m3); (try have m3 := m2); (try have m2 := m1); (try have m1 := m0); have m0 := mm) | skip); clear hs0; clear hb)
      all_goals go_ret2
      all_goals exact ⟨rfl, by ((try go_split_ands); go_grown)⟩
  · have h4i : ((len : Int) == 4) = false := by rw [beq_eq_false_iff_ne]; omega
    have h4j : ((len : Int) != 4) = true := by simp [bne, h4i]
    have h4k : ¬ (len : Int) = 4 := by omega
    have h4l : ¬ len = 4 := h4
    clear hn hz h4
    go_enter Try.func31, Try.ntmps31
    go_wp2_with fail
    all_goals go_ret2
    all_goals exact ⟨rfl, by ((try go_split_ands); go_grown)⟩
set_option maxRecDepth 100000 in
set_option maxHeartbeats 8000000 in
theorem readState_yes (g0 cap : Nat) (lo hi : Int) (z : List (Int × Int)) (w : World) (hz : RdI w (some ⟨g0, 0, none⟩) 4 z) (hcap : 4 ≤ cap) (hn : absOk true z (lo, hi) = true) : Calls Try.prog 31 #[.agg #[.bool true, .slice (some ⟨g0, 0, none⟩) 4 cap, .int .i64 lo, .int .i64 hi]] w fun e w' => ∃ g, e = .returned (.tuple #[.pointer (some ⟨g, 0, none⟩), .bool true]) ∧ w.heap.size ≤ g ∧ StAt w' g z lo hi ∧ Below w.heap.size w w' := by
  have HZ := Lib.hid hz
  have h1 : okI (lo, hi) = true ∧ (!z.all okI) = false := by
    unfold absOk at hn
    simp [hz.1] at hn
    refine ⟨hn.1, ?_⟩
    simp only [Bool.not_eq_false']
    rw [List.all_eq_true]
    rintro ⟨x, y⟩ hx
    exact hn.2 x y hx
  have Hc := Lib.hid h1.1
  have HB := Lib.hid h1.2
  clear h1 hn hz
  go_enter Try.func31, Try.ntmps31
  go_wp2_with (first
    | (go_at_call 55; refine (ok_ix Hc.out _).mono ?_; rintro e w1 ⟨rfl, hb1⟩; have c1 : w1.cell? ⟨w.heap.size, 1, none⟩ = some (.slice (some ⟨g0, 0, none⟩) 4 cap) := (hb1.cell (by simp only [World.size_alloc]; omega)).trans (by simp [go_sem]); have c2 : w1.cell? ⟨w.heap.size, 2, none⟩ = some (.int .i64 lo) := (hb1.cell (by simp only [World.size_alloc]; omega)).trans (by simp [go_sem]); have c3 : w1.cell? ⟨w.heap.size, 3, none⟩ = some (.int .i64 hi) := (hb1.cell (by simp only [World.size_alloc]; omega)).trans (by simp [go_sem]); have hS1 := below_on ((Below.refl w.heap.size w).alloc (Nat.le_refl _) _) hb1; clear hb1)
    | (go_at_call 56; refine (containsBad _ HB.out (HZ.out.below hS1) (by omega)).mono ?_; rintro e w2 ⟨rfl, hb2⟩; have d1 := (hb2.cell (blk c1)).trans c1; have d2 := (hb2.cell (blk c2)).trans c2; have d3 := (hb2.cell (blk c3)).trans c3; have hS2 := below_on hS1 hb2; clear hb2 c1 c2 c3 hS1))
  obtain ⟨hzl, hzz⟩ := HZ.out.below hS2
  obtain ⟨x, hx, hz2⟩ := hzz.resolve_left (by omega)
  obtain rfl := Option.some.inj hx
  have q0 := hz2 0 (by omega)
  have q1 := hz2 1 (by omega)
  have q2 := hz2 2 (by omega)
  have q3 := hz2 3 (by omega)
  simp only [add_none] at q0 q1 q2 q3
  obtain ⟨a0, a1⟩ := q0
  obtain ⟨a2, a3⟩ := q1
  obtain ⟨a4, a5⟩ := q2
  obtain ⟨a6, a7⟩ := q3
  clear hz2 hzz hx hzl
  obtain ⟨p0, hp0⟩ : ∃ q, q = z.getD 0 (0, 0) := ⟨_, rfl⟩
  obtain ⟨p1, hp1⟩ : ∃ q, q = z.getD 1 (0, 0) := ⟨_, rfl⟩
  obtain ⟨p2, hp2⟩ : ∃ q, q = z.getD 2 (0, 0) := ⟨_, rfl⟩
  obtain ⟨p3, hp3⟩ : ∃ q, q = z.getD 3 (0, 0) := ⟨_, rfl⟩
  rw [← hp0] at a0 a1
  rw [← hp1] at a2 a3
  rw [← hp2] at a4 a5
  rw [← hp3] at a6 a7
  have HP := Lib.hid (And.intro hp0 (And.intro hp1 (And.intro hp2 hp3)))
  clear hp0 hp1 hp2 hp3
  have harr : ∀ W : World, (Instr.arrayAt 60 (.slice (some ⟨g0, 0, none⟩) 4 cap)).run Try.prog W = .ok (.pointer (some ⟨g0, 0, none⟩)) W := fun W => run_arrayAt W _ _ 4 _ _ _ Try.underlying60 (by omega)
  go_region
  go_wp2_with fail
  go_ret2
  obtain ⟨e0, e1, e2, e3⟩ := HP.out
  subst e0 e1 e2 e3
  refine ⟨_, rfl, hS2.size, ⟨fun i hi => ?_, by simp [go_sem], by simp [go_sem]⟩, by first | exact hS2.alloc hS2.size _ | exact (hS2.alloc hS2.size _).drew⟩
  obtain rfl | rfl | rfl | rfl : i = 0 ∨ i = 1 ∨ i = 2 ∨ i = 3 := by omega
  all_goals (constructor <;> simp [go_sem])
end Go.Proofs.Ytdpooiiacdfpkaa
