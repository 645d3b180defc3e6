/-
  The reference's draws of two bounds: DrawItvIn and those that call it. No conditions.
-/
import Derived.Test.YtbkfhlppcocamaaDraw4
namespace Go.Proofs.Ytbkfhlppcocamaa
set_option linter.unusedSimpArgs false
set_option linter.unusedVariables false
open Go.ChangeShapes Go.WideShapes Go.ChangeAt Go.RowKit

theorem IsRow.alloc {k : IntKind} {w : World} {a : Option Addr} {len cap : Nat} {z : List Int} (h : IsRow k w a len cap z) (o : Obj) : IsRow k (w.alloc o) a len cap z :=
  h.mono fun p v _ hv => (World.cell?_alloc_lt _ _ _ (World.block_lt_of_cell? w _ hv)).trans hv
/-- What a law's own draw of two bounds leaves. -/
def DrawsI2 (w : World) (e : Ending) (w' : World) : Prop := ∃ x y u v : Int, e = .returned (.tuple #[.agg #[.int .i64 x, .int .i64 y], .agg #[.int .i64 u, .int .i64 v]]) ∧ I64 x ∧ I64 y ∧ I64 u ∧ I64 v ∧ Below w.heap.size w w'
set_option maxRecDepth 100000 in
set_option maxHeartbeats 8000000 in
theorem drawItvIn_s (a : Option Addr) (len cap : Nat) (z : List Int) (w : World) (hrow : IsRow .u8 w a len cap z) :
    Calls Try.prog 24 #[.slice a len cap] w (DrawsI2 w) := by
  go_enter Try.func24, Try.ntmps24
  go_wp2_with fail
  refine (open_s _ _ _ _ _ ((hrow.alloc _).alloc _)).mono ?_
  rintro e wI ⟨rfl, hR0, hb0⟩
  have hBI : Below w.heap.size w wI := below_on (by go_grown) hb0
  have r00 := hb0.cell (p := ⟨w.heap.size, 0, none⟩) (by simp only [World.size_alloc]; omega)
  have r01 := hb0.cell (p := ⟨w.heap.size, 1, none⟩) (by simp only [World.size_alloc]; omega)
  have s00 := hb0.cell (p := ⟨w.heap.size + 1, 0, none⟩) (by simp only [World.size_alloc]; omega)
  have s01 := hb0.cell (p := ⟨w.heap.size + 1, 1, none⟩) (by simp only [World.size_alloc]; omega)
  have fr00 := hb0.frozen (p := ⟨w.heap.size, 0, none⟩) (by simp only [World.size_alloc]; omega)
  have fr01 := hb0.frozen (p := ⟨w.heap.size, 1, none⟩) (by simp only [World.size_alloc]; omega)
  have fs00 := hb0.frozen (p := ⟨w.heap.size + 1, 0, none⟩) (by simp only [World.size_alloc]; omega)
  have fs01 := hb0.frozen (p := ⟨w.heap.size + 1, 1, none⟩) (by simp only [World.size_alloc]; omega)
  simp [go_sem] at r00 r01 s00 s01 fr00 fr01 fs00 fs01
  simp only [World.size_alloc] at hR0
  have hz0 : w.heap.size + 1 + 1 < wI.heap.size := hR0.lt
  have hU0 := But.refl (w.heap.size + 1 + 1) wI
  clear hb0
  go_wp2_with fail
  refine (l20Itv_s _ _ 12 _ (by (repeat' (first | with_reducible exact hR0 | with_reducible apply Rd.alloc | with_reducible apply Rd.drew | with_reducible apply Rd.drewN))) (by omega) (i64_small (by omega))).mono ?_
  rintro e w1 ⟨x1, y1, p1, rfl, hx1, hy1, hp1a, hp1b, hR1, hb1⟩; have hs1 := hb1.size; (try simp only [World.size_alloc, World.size_setCell, World.size_drew] at hs1); have hz1 : w.heap.size + 1 + 1 < w1.heap.size := (by omega); have hq1 := hR1.lt; have r10 := (hb1.cell (p := ⟨w.heap.size, 0, none⟩) (by (try simp only [World.size_alloc, World.size_setCell, World.size_drew]); omega) (by simp only []; omega)).trans (by (repeat' (first | with_reducible exact r00 | with_reducible apply keep_alloc | with_reducible apply keep_drew))); have fr10 := (hb1.frozen (p := ⟨w.heap.size, 0, none⟩) (by (try simp only [World.size_alloc, World.size_setCell, World.size_drew]); omega) (by simp only []; omega)).trans (by (repeat' (first | with_reducible exact fr00 | with_reducible apply keepf_alloc | with_reducible apply keepf_drew | (simp only [World.size_alloc]; omega)))); have r11 := (hb1.cell (p := ⟨w.heap.size, 1, none⟩) (by (try simp only [World.size_alloc, World.size_setCell, World.size_drew]); omega) (by simp only []; omega)).trans (by (repeat' (first | with_reducible exact r01 | with_reducible apply keep_alloc | with_reducible apply keep_drew))); have fr11 := (hb1.frozen (p := ⟨w.heap.size, 1, none⟩) (by (try simp only [World.size_alloc, World.size_setCell, World.size_drew]); omega) (by simp only []; omega)).trans (by (repeat' (first | with_reducible exact fr01 | with_reducible apply keepf_alloc | with_reducible apply keepf_drew | (simp only [World.size_alloc]; omega)))); have s10 := (hb1.cell (p := ⟨w.heap.size + 1, 0, none⟩) (by (try simp only [World.size_alloc, World.size_setCell, World.size_drew]); omega) (by simp only []; omega)).trans (by (repeat' (first | with_reducible exact s00 | with_reducible apply keep_alloc | with_reducible apply keep_drew))); have fs10 := (hb1.frozen (p := ⟨w.heap.size + 1, 0, none⟩) (by (try simp only [World.size_alloc, World.size_setCell, World.size_drew]); omega) (by simp only []; omega)).trans (by (repeat' (first | with_reducible exact fs00 | with_reducible apply keepf_alloc | with_reducible apply keepf_drew | (simp only [World.size_alloc]; omega)))); have s11 := (hb1.cell (p := ⟨w.heap.size + 1, 1, none⟩) (by (try simp only [World.size_alloc, World.size_setCell, World.size_drew]); omega) (by simp only []; omega)).trans (by (repeat' (first | with_reducible exact s01 | with_reducible apply keep_alloc | with_reducible apply keep_drew))); have fs11 := (hb1.frozen (p := ⟨w.heap.size + 1, 1, none⟩) (by (try simp only [World.size_alloc, World.size_setCell, World.size_drew]); omega) (by simp only []; omega)).trans (by (repeat' (first | with_reducible exact fs01 | with_reducible apply keepf_alloc | with_reducible apply keepf_drew | (simp only [World.size_alloc]; omega)))); have hU1 : But (w.heap.size + 1 + 1) wI w1 := But.trans (by (repeat' (first | with_reducible exact hU0 | with_reducible refine But.alloc ?_ _ | with_reducible refine But.drew ?_ | with_reducible refine But.drewN ?_ _))) hb1; clear hb1 hs1
  clear hR0 hU0 r00 r01 s00 s01 fr00 fr01 fs00 fs01
  have b10 : (w1.alloc (.cells #[.int .i64 x1, .int .i64 y1] 34)).cell? ⟨w1.heap.size, 0, none⟩ = some (.int .i64 x1) := by simp [go_sem]
  have b11 : (w1.alloc (.cells #[.int .i64 x1, .int .i64 y1] 34)).cell? ⟨w1.heap.size, 1, none⟩ = some (.int .i64 y1) := by simp [go_sem]
  go_wp2_with fail
  refine (pick_s _ _ 2 _ (by (repeat' (first | with_reducible exact hR1 | with_reducible apply Rd.alloc | with_reducible apply Rd.drew | with_reducible apply Rd.drewN))) (by omega) (by unfold I64; omega)).mono ?_
  rintro e w2 ⟨v2, p2, rfl, hx2, hp2a, hp2b, hR2, hb2⟩; have hs2 := hb2.size; (try simp only [World.size_alloc, World.size_setCell, World.size_drew] at hs2); have hz2 : w.heap.size + 1 + 1 < w2.heap.size := (by omega); have hg2 : w1.heap.size < w2.heap.size := (by omega); have hq2 := hR2.lt; have r20 := (hb2.cell (p := ⟨w.heap.size, 0, none⟩) (by (try simp only [World.size_alloc, World.size_setCell, World.size_drew]); omega) (by simp only []; omega)).trans (by (repeat' (first | with_reducible exact r10 | with_reducible apply keep_alloc | with_reducible apply keep_drew))); have fr20 := (hb2.frozen (p := ⟨w.heap.size, 0, none⟩) (by (try simp only [World.size_alloc, World.size_setCell, World.size_drew]); omega) (by simp only []; omega)).trans (by (repeat' (first | with_reducible exact fr10 | with_reducible apply keepf_alloc | with_reducible apply keepf_drew | (simp only [World.size_alloc]; omega)))); have r21 := (hb2.cell (p := ⟨w.heap.size, 1, none⟩) (by (try simp only [World.size_alloc, World.size_setCell, World.size_drew]); omega) (by simp only []; omega)).trans (by (repeat' (first | with_reducible exact r11 | with_reducible apply keep_alloc | with_reducible apply keep_drew))); have fr21 := (hb2.frozen (p := ⟨w.heap.size, 1, none⟩) (by (try simp only [World.size_alloc, World.size_setCell, World.size_drew]); omega) (by simp only []; omega)).trans (by (repeat' (first | with_reducible exact fr11 | with_reducible apply keepf_alloc | with_reducible apply keepf_drew | (simp only [World.size_alloc]; omega)))); have s20 := (hb2.cell (p := ⟨w.heap.size + 1, 0, none⟩) (by (try simp only [World.size_alloc, World.size_setCell, World.size_drew]); omega) (by simp only []; omega)).trans (by (repeat' (first | with_reducible exact s10 | with_reducible apply keep_alloc | with_reducible apply keep_drew))); have fs20 := (hb2.frozen (p := ⟨w.heap.size + 1, 0, none⟩) (by (try simp only [World.size_alloc, World.size_setCell, World.size_drew]); omega) (by simp only []; omega)).trans (by (repeat' (first | with_reducible exact fs10 | with_reducible apply keepf_alloc | with_reducible apply keepf_drew | (simp only [World.size_alloc]; omega)))); have s21 := (hb2.cell (p := ⟨w.heap.size + 1, 1, none⟩) (by (try simp only [World.size_alloc, World.size_setCell, World.size_drew]); omega) (by simp only []; omega)).trans (by (repeat' (first | with_reducible exact s11 | with_reducible apply keep_alloc | with_reducible apply keep_drew))); have fs21 := (hb2.frozen (p := ⟨w.heap.size + 1, 1, none⟩) (by (try simp only [World.size_alloc, World.size_setCell, World.size_drew]); omega) (by simp only []; omega)).trans (by (repeat' (first | with_reducible exact fs11 | with_reducible apply keepf_alloc | with_reducible apply keepf_drew | (simp only [World.size_alloc]; omega)))); have b20 := (hb2.cell (p := ⟨w1.heap.size, 0, none⟩) (by (try simp only [World.size_alloc, World.size_setCell, World.size_drew]); omega) (by simp only []; omega)).trans (by (repeat' (first | with_reducible exact b10 | with_reducible apply keep_alloc | with_reducible apply keep_drew))); have b21 := (hb2.cell (p := ⟨w1.heap.size, 1, none⟩) (by (try simp only [World.size_alloc, World.size_setCell, World.size_drew]); omega) (by simp only []; omega)).trans (by (repeat' (first | with_reducible exact b11 | with_reducible apply keep_alloc | with_reducible apply keep_drew))); have hU2 : But (w.heap.size + 1 + 1) wI w2 := But.trans (by (repeat' (first | with_reducible exact hU1 | with_reducible refine But.alloc ?_ _ | with_reducible refine But.drew ?_ | with_reducible refine But.drewN ?_ _))) hb2; clear hb2 hs2
  clear hR1 hU1 r10 r11 s10 s11 fr10 fr11 fs10 fs11 b10 b11
  rcases lt2 hx2 with rfl | rfl
  · clear hx2
    go_wp2_with fail
    refine (itvOk_s _ _ _).mono ?_
    rintro e w3 ⟨rfl, hb3⟩; have hs3 := hb3.size; (try simp only [World.size_alloc, World.size_setCell, World.size_drew] at hs3); have hz3 : w.heap.size + 1 + 1 < w3.heap.size := (by omega); have hg3 : w1.heap.size < w3.heap.size := (by omega); have hR3 : Rd w3 (w.heap.size + 1 + 1) p2 := Rd.below (by (repeat' (first | with_reducible exact hR2 | with_reducible apply Rd.alloc | with_reducible apply Rd.drew | with_reducible apply Rd.drewN))) hb3; have hq3 := hR3.lt; have r30 := (hb3.cell (p := ⟨w.heap.size, 0, none⟩) (by (try simp only [World.size_alloc, World.size_setCell, World.size_drew]); omega)).trans (by (repeat' (first | with_reducible exact r20 | with_reducible apply keep_alloc | with_reducible apply keep_drew))); have fr30 := (hb3.frozen (p := ⟨w.heap.size, 0, none⟩) (by (try simp only [World.size_alloc, World.size_setCell, World.size_drew]); omega)).trans (by (repeat' (first | with_reducible exact fr20 | with_reducible apply keepf_alloc | with_reducible apply keepf_drew | (simp only [World.size_alloc]; omega)))); have r31 := (hb3.cell (p := ⟨w.heap.size, 1, none⟩) (by (try simp only [World.size_alloc, World.size_setCell, World.size_drew]); omega)).trans (by (repeat' (first | with_reducible exact r21 | with_reducible apply keep_alloc | with_reducible apply keep_drew))); have fr31 := (hb3.frozen (p := ⟨w.heap.size, 1, none⟩) (by (try simp only [World.size_alloc, World.size_setCell, World.size_drew]); omega)).trans (by (repeat' (first | with_reducible exact fr21 | with_reducible apply keepf_alloc | with_reducible apply keepf_drew | (simp only [World.size_alloc]; omega)))); have s30 := (hb3.cell (p := ⟨w.heap.size + 1, 0, none⟩) (by (try simp only [World.size_alloc, World.size_setCell, World.size_drew]); omega)).trans (by (repeat' (first | with_reducible exact s20 | with_reducible apply keep_alloc | with_reducible apply keep_drew))); have fs30 := (hb3.frozen (p := ⟨w.heap.size + 1, 0, none⟩) (by (try simp only [World.size_alloc, World.size_setCell, World.size_drew]); omega)).trans (by (repeat' (first | with_reducible exact fs20 | with_reducible apply keepf_alloc | with_reducible apply keepf_drew | (simp only [World.size_alloc]; omega)))); have s31 := (hb3.cell (p := ⟨w.heap.size + 1, 1, none⟩) (by (try simp only [World.size_alloc, World.size_setCell, World.size_drew]); omega)).trans (by (repeat' (first | with_reducible exact s21 | with_reducible apply keep_alloc | with_reducible apply keep_drew))); have fs31 := (hb3.frozen (p := ⟨w.heap.size + 1, 1, none⟩) (by (try simp only [World.size_alloc, World.size_setCell, World.size_drew]); omega)).trans (by (repeat' (first | with_reducible exact fs21 | with_reducible apply keepf_alloc | with_reducible apply keepf_drew | (simp only [World.size_alloc]; omega)))); have b30 := (hb3.cell (p := ⟨w1.heap.size, 0, none⟩) (by (try simp only [World.size_alloc, World.size_setCell, World.size_drew]); omega)).trans (by (repeat' (first | with_reducible exact b20 | with_reducible apply keep_alloc | with_reducible apply keep_drew))); have b31 := (hb3.cell (p := ⟨w1.heap.size, 1, none⟩) (by (try simp only [World.size_alloc, World.size_setCell, World.size_drew]); omega)).trans (by (repeat' (first | with_reducible exact b21 | with_reducible apply keep_alloc | with_reducible apply keep_drew))); have hU3 : But (w.heap.size + 1 + 1) wI w3 := But.trans (by (repeat' (first | with_reducible exact hU2 | with_reducible refine But.alloc ?_ _ | with_reducible refine But.drew ?_ | with_reducible refine But.drewN ?_ _))) (But.of_below hb3); clear hb3 hs3
    clear hR2 hU2 r20 r21 s20 s21 fr20 fr21 fs20 fs21 b20 b21
    rcases Bool.eq_false_or_eq_true (okI (x1, y1)) with ho | ho
    · have hok := (okI_iff _).1 ho
      simp only at hok
      go_wp2_with fail
      go_region_with (go_at_call 53; refine (l20Inner_s _ _ _ _ _ (by (repeat' (first | with_reducible exact hR3 | with_reducible apply Rd.alloc | with_reducible apply Rd.drew | with_reducible apply Rd.drewN))) (by omega) hok).mono ?_; rintro e w4 ⟨x4, y4, p4, rfl, hx4, hy4, hp4a, hp4b, hR4, hb4⟩; have hs4 := hb4.size; (try simp only [World.size_alloc, World.size_setCell, World.size_drew] at hs4); have hz4 : w.heap.size + 1 + 1 < w4.heap.size := (by omega); have hg4 : w1.heap.size < w4.heap.size := (by omega); have hq4 := hR4.lt; have r40 := (hb4.cell (p := ⟨w.heap.size, 0, none⟩) (by (try simp only [World.size_alloc, World.size_setCell, World.size_drew]); omega) (by simp only []; omega)).trans (by (repeat' (first | with_reducible exact r30 | with_reducible apply keep_alloc | with_reducible apply keep_drew))); have fr40 := (hb4.frozen (p := ⟨w.heap.size, 0, none⟩) (by (try simp only [World.size_alloc, World.size_setCell, World.size_drew]); omega) (by simp only []; omega)).trans (by (repeat' (first | with_reducible exact fr30 | with_reducible apply keepf_alloc | with_reducible apply keepf_drew | (simp only [World.size_alloc]; omega)))); have r41 := (hb4.cell (p := ⟨w.heap.size, 1, none⟩) (by (try simp only [World.size_alloc, World.size_setCell, World.size_drew]); omega) (by simp only []; omega)).trans (by (repeat' (first | with_reducible exact r31 | with_reducible apply keep_alloc | with_reducible apply keep_drew))); have fr41 := (hb4.frozen (p := ⟨w.heap.size, 1, none⟩) (by (try simp only [World.size_alloc, World.size_setCell, World.size_drew]); omega) (by simp only []; omega)).trans (by (repeat' (first | with_reducible exact fr31 | with_reducible apply keepf_alloc | with_reducible apply keepf_drew | (simp only [World.size_alloc]; omega)))); have s40 := (hb4.cell (p := ⟨w.heap.size + 1, 0, none⟩) (by (try simp only [World.size_alloc, World.size_setCell, World.size_drew]); omega) (by simp only []; omega)).trans (by (repeat' (first | with_reducible exact s30 | with_reducible apply keep_alloc | with_reducible apply keep_drew))); have fs40 := (hb4.frozen (p := ⟨w.heap.size + 1, 0, none⟩) (by (try simp only [World.size_alloc, World.size_setCell, World.size_drew]); omega) (by simp only []; omega)).trans (by (repeat' (first | with_reducible exact fs30 | with_reducible apply keepf_alloc | with_reducible apply keepf_drew | (simp only [World.size_alloc]; omega)))); have s41 := (hb4.cell (p := ⟨w.heap.size + 1, 1, none⟩) (by (try simp only [World.size_alloc, World.size_setCell, World.size_drew]); omega) (by simp only []; omega)).trans (by (repeat' (first | with_reducible exact s31 | with_reducible apply keep_alloc | with_reducible apply keep_drew))); have fs41 := (hb4.frozen (p := ⟨w.heap.size + 1, 1, none⟩) (by (try simp only [World.size_alloc, World.size_setCell, World.size_drew]); omega) (by simp only []; omega)).trans (by (repeat' (first | with_reducible exact fs31 | with_reducible apply keepf_alloc | with_reducible apply keepf_drew | (simp only [World.size_alloc]; omega)))); have b40 := (hb4.cell (p := ⟨w1.heap.size, 0, none⟩) (by (try simp only [World.size_alloc, World.size_setCell, World.size_drew]); omega) (by simp only []; omega)).trans (by (repeat' (first | with_reducible exact b30 | with_reducible apply keep_alloc | with_reducible apply keep_drew))); have b41 := (hb4.cell (p := ⟨w1.heap.size, 1, none⟩) (by (try simp only [World.size_alloc, World.size_setCell, World.size_drew]); omega) (by simp only []; omega)).trans (by (repeat' (first | with_reducible exact b31 | with_reducible apply keep_alloc | with_reducible apply keep_drew))); have hU4 : But (w.heap.size + 1 + 1) wI w4 := But.trans (by (repeat' (first | with_reducible exact hU3 | with_reducible refine But.alloc ?_ _ | with_reducible refine But.drew ?_ | with_reducible refine But.drewN ?_ _))) hb4; clear hb4 hs4)
      all_goals
        go_wp2_with fail
        have hB4 : Below w.heap.size w w4 := hU4.to_below hBI (by omega) (by omega)
        (refine bodyPost_ret (by simp [results, Try.results24, go_sem, *]; try rfl) rfl ?_)
        unfold DrawsI2
        exact ⟨x4, y4, x1, y1, rfl, hx4, hy4, hx1, hy1, by go_grown⟩
    · go_wp2_with fail
      go_region_with (go_at_call 52; refine (l20Itv_s _ _ 12 _ (by (repeat' (first | with_reducible exact hR3 | with_reducible apply Rd.alloc | with_reducible apply Rd.drew | with_reducible apply Rd.drewN))) (by omega) (i64_small (by omega))).mono ?_; rintro e w4 ⟨x4, y4, p4, rfl, hx4, hy4, hp4a, hp4b, hR4, hb4⟩; have hs4 := hb4.size; (try simp only [World.size_alloc, World.size_setCell, World.size_drew] at hs4); have hz4 : w.heap.size + 1 + 1 < w4.heap.size := (by omega); have hg4 : w1.heap.size < w4.heap.size := (by omega); have hq4 := hR4.lt; have r40 := (hb4.cell (p := ⟨w.heap.size, 0, none⟩) (by (try simp only [World.size_alloc, World.size_setCell, World.size_drew]); omega) (by simp only []; omega)).trans (by (repeat' (first | with_reducible exact r30 | with_reducible apply keep_alloc | with_reducible apply keep_drew))); have fr40 := (hb4.frozen (p := ⟨w.heap.size, 0, none⟩) (by (try simp only [World.size_alloc, World.size_setCell, World.size_drew]); omega) (by simp only []; omega)).trans (by (repeat' (first | with_reducible exact fr30 | with_reducible apply keepf_alloc | with_reducible apply keepf_drew | (simp only [World.size_alloc]; omega)))); have r41 := (hb4.cell (p := ⟨w.heap.size, 1, none⟩) (by (try simp only [World.size_alloc, World.size_setCell, World.size_drew]); omega) (by simp only []; omega)).trans (by (repeat' (first | with_reducible exact r31 | with_reducible apply keep_alloc | with_reducible apply keep_drew))); have fr41 := (hb4.frozen (p := ⟨w.heap.size, 1, none⟩) (by (try simp only [World.size_alloc, World.size_setCell, World.size_drew]); omega) (by simp only []; omega)).trans (by (repeat' (first | with_reducible exact fr31 | with_reducible apply keepf_alloc | with_reducible apply keepf_drew | (simp only [World.size_alloc]; omega)))); have s40 := (hb4.cell (p := ⟨w.heap.size + 1, 0, none⟩) (by (try simp only [World.size_alloc, World.size_setCell, World.size_drew]); omega) (by simp only []; omega)).trans (by (repeat' (first | with_reducible exact s30 | with_reducible apply keep_alloc | with_reducible apply keep_drew))); have fs40 := (hb4.frozen (p := ⟨w.heap.size + 1, 0, none⟩) (by (try simp only [World.size_alloc, World.size_setCell, World.size_drew]); omega) (by simp only []; omega)).trans (by (repeat' (first | with_reducible exact fs30 | with_reducible apply keepf_alloc | with_reducible apply keepf_drew | (simp only [World.size_alloc]; omega)))); have s41 := (hb4.cell (p := ⟨w.heap.size + 1, 1, none⟩) (by (try simp only [World.size_alloc, World.size_setCell, World.size_drew]); omega) (by simp only []; omega)).trans (by (repeat' (first | with_reducible exact s31 | with_reducible apply keep_alloc | with_reducible apply keep_drew))); have fs41 := (hb4.frozen (p := ⟨w.heap.size + 1, 1, none⟩) (by (try simp only [World.size_alloc, World.size_setCell, World.size_drew]); omega) (by simp only []; omega)).trans (by (repeat' (first | with_reducible exact fs31 | with_reducible apply keepf_alloc | with_reducible apply keepf_drew | (simp only [World.size_alloc]; omega)))); have b40 := (hb4.cell (p := ⟨w1.heap.size, 0, none⟩) (by (try simp only [World.size_alloc, World.size_setCell, World.size_drew]); omega) (by simp only []; omega)).trans (by (repeat' (first | with_reducible exact b30 | with_reducible apply keep_alloc | with_reducible apply keep_drew))); have b41 := (hb4.cell (p := ⟨w1.heap.size, 1, none⟩) (by (try simp only [World.size_alloc, World.size_setCell, World.size_drew]); omega) (by simp only []; omega)).trans (by (repeat' (first | with_reducible exact b31 | with_reducible apply keep_alloc | with_reducible apply keep_drew))); have hU4 : But (w.heap.size + 1 + 1) wI w4 := But.trans (by (repeat' (first | with_reducible exact hU3 | with_reducible refine But.alloc ?_ _ | with_reducible refine But.drew ?_ | with_reducible refine But.drewN ?_ _))) hb4; clear hb4 hs4)
      all_goals
        go_wp2_with fail
        have hB4 : Below w.heap.size w w4 := hU4.to_below hBI (by omega) (by omega)
        (refine bodyPost_ret (by simp [results, Try.results24, go_sem, *]; try rfl) rfl ?_)
        unfold DrawsI2
        exact ⟨x4, y4, x1, y1, rfl, hx4, hy4, hx1, hy1, by go_grown⟩
  · clear hx2
    go_wp2_with fail
    go_region_with (go_at_call 52; refine (l20Itv_s _ _ 12 _ (by (repeat' (first | with_reducible exact hR2 | with_reducible apply Rd.alloc | with_reducible apply Rd.drew | with_reducible apply Rd.drewN))) (by omega) (i64_small (by omega))).mono ?_; rintro e w4 ⟨x4, y4, p4, rfl, hx4, hy4, hp4a, hp4b, hR4, hb4⟩; have hs4 := hb4.size; (try simp only [World.size_alloc, World.size_setCell, World.size_drew] at hs4); have hz4 : w.heap.size + 1 + 1 < w4.heap.size := (by omega); have hg4 : w1.heap.size < w4.heap.size := (by omega); have hq4 := hR4.lt; have r40 := (hb4.cell (p := ⟨w.heap.size, 0, none⟩) (by (try simp only [World.size_alloc, World.size_setCell, World.size_drew]); omega) (by simp only []; omega)).trans (by (repeat' (first | with_reducible exact r20 | with_reducible apply keep_alloc | with_reducible apply keep_drew))); have fr40 := (hb4.frozen (p := ⟨w.heap.size, 0, none⟩) (by (try simp only [World.size_alloc, World.size_setCell, World.size_drew]); omega) (by simp only []; omega)).trans (by (repeat' (first | with_reducible exact fr20 | with_reducible apply keepf_alloc | with_reducible apply keepf_drew | (simp only [World.size_alloc]; omega)))); have r41 := (hb4.cell (p := ⟨w.heap.size, 1, none⟩) (by (try simp only [World.size_alloc, World.size_setCell, World.size_drew]); omega) (by simp only []; omega)).trans (by (repeat' (first | with_reducible exact r21 | with_reducible apply keep_alloc | with_reducible apply keep_drew))); have fr41 := (hb4.frozen (p := ⟨w.heap.size, 1, none⟩) (by (try simp only [World.size_alloc, World.size_setCell, World.size_drew]); omega) (by simp only []; omega)).trans (by (repeat' (first | with_reducible exact fr21 | with_reducible apply keepf_alloc | with_reducible apply keepf_drew | (simp only [World.size_alloc]; omega)))); have s40 := (hb4.cell (p := ⟨w.heap.size + 1, 0, none⟩) (by (try simp only [World.size_alloc, World.size_setCell, World.size_drew]); omega) (by simp only []; omega)).trans (by (repeat' (first | with_reducible exact s20 | with_reducible apply keep_alloc | with_reducible apply keep_drew))); have fs40 := (hb4.frozen (p := ⟨w.heap.size + 1, 0, none⟩) (by (try simp only [World.size_alloc, World.size_setCell, World.size_drew]); omega) (by simp only []; omega)).trans (by (repeat' (first | with_reducible exact fs20 | with_reducible apply keepf_alloc | with_reducible apply keepf_drew | (simp only [World.size_alloc]; omega)))); have s41 := (hb4.cell (p := ⟨w.heap.size + 1, 1, none⟩) (by (try simp only [World.size_alloc, World.size_setCell, World.size_drew]); omega) (by simp only []; omega)).trans (by (repeat' (first | with_reducible exact s21 | with_reducible apply keep_alloc | with_reducible apply keep_drew))); have fs41 := (hb4.frozen (p := ⟨w.heap.size + 1, 1, none⟩) (by (try simp only [World.size_alloc, World.size_setCell, World.size_drew]); omega) (by simp only []; omega)).trans (by (repeat' (first | with_reducible exact fs21 | with_reducible apply keepf_alloc | with_reducible apply keepf_drew | (simp only [World.size_alloc]; omega)))); have b40 := (hb4.cell (p := ⟨w1.heap.size, 0, none⟩) (by (try simp only [World.size_alloc, World.size_setCell, World.size_drew]); omega) (by simp only []; omega)).trans (by (repeat' (first | with_reducible exact b20 | with_reducible apply keep_alloc | with_reducible apply keep_drew))); have b41 := (hb4.cell (p := ⟨w1.heap.size, 1, none⟩) (by (try simp only [World.size_alloc, World.size_setCell, World.size_drew]); omega) (by simp only []; omega)).trans (by (repeat' (first | with_reducible exact b21 | with_reducible apply keep_alloc | with_reducible apply keep_drew))); have hU4 : But (w.heap.size + 1 + 1) wI w4 := But.trans (by (repeat' (first | with_reducible exact hU2 | with_reducible refine But.alloc ?_ _ | with_reducible refine But.drew ?_ | with_reducible refine But.drewN ?_ _))) hb4; clear hb4 hs4)
    all_goals
      go_wp2_with fail
      have hB4 : Below w.heap.size w w4 := hU4.to_below hBI (by omega) (by omega)
      (refine bodyPost_ret (by simp [results, Try.results24, go_sem, *]; try rfl) rfl ?_)
      unfold DrawsI2
      exact ⟨x4, y4, x1, y1, rfl, hx4, hy4, hx1, hy1, by go_grown⟩
set_option maxHeartbeats 2000000 in
theorem drawItvJoin_s (a : Option Addr) (len cap : Nat) (z : List Int) (w : World) (hrow : IsRow .u8 w a len cap z) :
    Calls Try.prog 31 #[.slice a len cap] w (DrawsI2 w) := by
  go_enter Try.func31, Try.ntmps31
  go_wp2_with fail
  refine (drawItvIn_s _ _ _ _ _ ((hrow.alloc _).alloc _)).mono ?_
  rintro e w1 ⟨x, y, u, v, rfl, hx, hy, hu, hv, hb⟩
  have hs0 := hb.size
  have hB : Below w.heap.size w w1 := below_on (by go_grown) hb
  have hc := bcell hb
  simp only [World.size_alloc] at hs0
  have hz1 : w.heap.size < w1.heap.size := by omega
  have hz2 : w.heap.size + 1 < w1.heap.size := by omega
  have k0 := hb.cell (p := ⟨w.heap.size, 0, none⟩) (by simp only [World.size_alloc]; omega)
  have k1 := hb.cell (p := ⟨w.heap.size, 1, none⟩) (by simp only [World.size_alloc]; omega)
  have k2 := hb.cell (p := ⟨w.heap.size + 1, 0, none⟩) (by simp only [World.size_alloc]; omega)
  have k3 := hb.cell (p := ⟨w.heap.size + 1, 1, none⟩) (by simp only [World.size_alloc]; omega)
  have k4 := hb.frozen (p := ⟨w.heap.size, 0, none⟩) (by simp only [World.size_alloc]; omega)
  have k5 := hb.frozen (p := ⟨w.heap.size, 1, none⟩) (by simp only [World.size_alloc]; omega)
  have k6 := hb.frozen (p := ⟨w.heap.size + 1, 0, none⟩) (by simp only [World.size_alloc]; omega)
  have k7 := hb.frozen (p := ⟨w.heap.size + 1, 1, none⟩) (by simp only [World.size_alloc]; omega)
  simp [go_sem] at k0 k1 k2 k3 k4 k5 k6 k7
  clear hb hs0 hc
  go_wp2_with fail
  (refine bodyPost_ret (by simp [results, Try.results31, go_sem, *]; try rfl) rfl ?_)
  unfold DrawsI2
  exact ⟨x, y, u, v, rfl, hx, hy, hu, hv, by go_grown⟩
set_option maxHeartbeats 2000000 in
theorem drawItvMeet_s (a : Option Addr) (len cap : Nat) (z : List Int) (w : World) (hrow : IsRow .u8 w a len cap z) :
    Calls Try.prog 38 #[.slice a len cap] w (DrawsI2 w) := by
  go_enter Try.func38, Try.ntmps38
  go_wp2_with fail
  refine (drawItvIn_s _ _ _ _ _ ((hrow.alloc _).alloc _)).mono ?_
  rintro e w1 ⟨x, y, u, v, rfl, hx, hy, hu, hv, hb⟩
  have hs0 := hb.size
  have hB : Below w.heap.size w w1 := below_on (by go_grown) hb
  have hc := bcell hb
  simp only [World.size_alloc] at hs0
  have hz1 : w.heap.size < w1.heap.size := by omega
  have hz2 : w.heap.size + 1 < w1.heap.size := by omega
  have k0 := hb.cell (p := ⟨w.heap.size, 0, none⟩) (by simp only [World.size_alloc]; omega)
  have k1 := hb.cell (p := ⟨w.heap.size, 1, none⟩) (by simp only [World.size_alloc]; omega)
  have k2 := hb.cell (p := ⟨w.heap.size + 1, 0, none⟩) (by simp only [World.size_alloc]; omega)
  have k3 := hb.cell (p := ⟨w.heap.size + 1, 1, none⟩) (by simp only [World.size_alloc]; omega)
  have k4 := hb.frozen (p := ⟨w.heap.size, 0, none⟩) (by simp only [World.size_alloc]; omega)
  have k5 := hb.frozen (p := ⟨w.heap.size, 1, none⟩) (by simp only [World.size_alloc]; omega)
  have k6 := hb.frozen (p := ⟨w.heap.size + 1, 0, none⟩) (by simp only [World.size_alloc]; omega)
  have k7 := hb.frozen (p := ⟨w.heap.size + 1, 1, none⟩) (by simp only [World.size_alloc]; omega)
  simp [go_sem] at k0 k1 k2 k3 k4 k5 k6 k7
  clear hb hs0 hc
  go_wp2_with fail
  (refine bodyPost_ret (by simp [results, Try.results38, go_sem, *]; try rfl) rfl ?_)
  unfold DrawsI2
  exact ⟨x, y, u, v, rfl, hx, hy, hu, hv, by go_grown⟩
set_option maxHeartbeats 2000000 in
theorem drawItvWide_s (a : Option Addr) (len cap : Nat) (z : List Int) (w : World) (hrow : IsRow .u8 w a len cap z) :
    Calls Try.prog 42 #[.slice a len cap] w (DrawsI2 w) := by
  have hcap : len ≤ 9223372036854775807 := by
    rcases hrow with ⟨_, h1, _⟩ | ⟨x, _, h1, h2, _⟩
    · omega
    · unfold maxLen at h2; omega
  by_cases h3 : len % 3 = 0
  all_goals
    have ht : (len : Int).tmod 3 = ((len % 3 : Nat) : Int) := by rw [tmod_pos _ (by omega)]; rfl
    have hd : ((len : Int).tmod 3 == 0) = decide (len % 3 = 0) := by rw [ht, Bool.eq_iff_iff]; simp; try omega
    go_enter Try.func42, Try.ntmps42
    go_wp2_with fail
    refine (drawItvIn_s _ _ _ _ _ ((hrow.alloc _).alloc _)).mono ?_
    rintro e w1 ⟨x, y, u, v, rfl, hx, hy, hu, hv, hb⟩
    have hs0 := hb.size
    have hB : Below w.heap.size w w1 := below_on (by go_grown) hb
    simp only [World.size_alloc] at hs0
    have hz1 : w.heap.size < w1.heap.size := by omega
    have hz2 : w.heap.size + 1 < w1.heap.size := by omega
    have k0 := hb.cell (p := ⟨w.heap.size, 0, none⟩) (by simp only [World.size_alloc]; omega)
    have k1 := hb.cell (p := ⟨w.heap.size, 1, none⟩) (by simp only [World.size_alloc]; omega)
    have k2 := hb.cell (p := ⟨w.heap.size + 1, 0, none⟩) (by simp only [World.size_alloc]; omega)
    have k3 := hb.cell (p := ⟨w.heap.size + 1, 1, none⟩) (by simp only [World.size_alloc]; omega)
    have k4 := hb.frozen (p := ⟨w.heap.size, 0, none⟩) (by simp only [World.size_alloc]; omega)
    have k5 := hb.frozen (p := ⟨w.heap.size, 1, none⟩) (by simp only [World.size_alloc]; omega)
    have k6 := hb.frozen (p := ⟨w.heap.size + 1, 0, none⟩) (by simp only [World.size_alloc]; omega)
    have k7 := hb.frozen (p := ⟨w.heap.size + 1, 1, none⟩) (by simp only [World.size_alloc]; omega)
    simp [go_sem] at k0 k1 k2 k3 k4 k5 k6 k7
    clear hb hs0
    go_wp2_with fail
    all_goals go_region
    all_goals go_wp2_with fail
    all_goals (refine bodyPost_ret (by simp [results, Try.results42, go_sem, *]; try rfl) rfl ?_)
    all_goals unfold DrawsI2
    all_goals exact ⟨_, _, _, _, rfl, by assumption, by assumption, by assumption, by assumption, by go_grown⟩
end Go.Proofs.Ytbkfhlppcocamaa
