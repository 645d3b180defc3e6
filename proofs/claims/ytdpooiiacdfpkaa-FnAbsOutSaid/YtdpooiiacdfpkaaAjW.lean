/-
  AbsWide: the reference's, by contract. No conditions but those that each theorem says. (Printed by wip/genaj.py.)
-/
import Derived.Test.YtdpooiiacdfpkaaAj
import Derived.Test.YtdpooiiacdfpkaaAbsIn2
import Derived.Test.YtdpooiiacdfpkaaLast
import Derived.Test.YtdpooiiacdfpkaaWide
namespace Go.Proofs.Ytdpooiiacdfpkaa
set_option linter.unusedSimpArgs false
set_option linter.unusedVariables false
open Go.ChangeShapes Go.WideShapes Go.ChangeAt Go.RowKit Go.Sort

theorem wide_sx {al ah bl bh jl jh : Int} (h : wideI (al, ah) (bl, bh) = (jl, jh)) (w : World) : Calls Try.prog 48 #[.agg #[.int .i64 al, .int .i64 ah], .agg #[.int .i64 bl, .int .i64 bh]] w fun e w' => e = .returned (.agg #[.int .i64 jl, .int .i64 jh]) ∧ Below w.heap.size w w' := by
  have k := itvWide_s al ah bl bh w
  rw [h] at k
  exact k
set_option maxRecDepth 100000 in
set_option maxHeartbeats 8000000 in
theorem absWide_s0 (on0 : Bool) (a0 : Option Addr) (len0 cap0 : Nat) (lo0 hi0 : Int) (z0 : List (Int × Int)) (on1 : Bool) (a1 : Option Addr) (len1 cap1 : Nat) (lo1 hi1 : Int) (z1 : List (Int × Int)) (w : World) (hz0 : RdI w a0 len0 z0) (hl0 : len0 ≤ 1048576) (hz1 : RdI w a1 len1 z1) (hl1 : len1 ≤ 1048576) (h0 : absOk on0 z0 (lo0, hi0) = false) : Calls Try.prog 20 #[.agg #[.bool on0, .slice a0 len0 cap0, .int .i64 lo0, .int .i64 hi0], .agg #[.bool on1, .slice a1 len1 cap1, .int .i64 lo1, .int .i64 hi1]] w (EmptyR w) := by
  have HZ0 := Lib.hid hz0
  have HZ1 := Lib.hid hz1
  have H0 := Lib.hid h0
  clear hz0 hz1 h0
  go_enter Try.func20, Try.ntmps20
  go_wp2_with (go_at_call 11; refine (absOk_sx H0.out _ (HZ0.out.below ((((Below.refl w.heap.size w).alloc (Nat.le_refl _) _).alloc (by simp only [World.size_alloc]; omega) _).alloc (by simp only [World.size_alloc]; omega) _)) hl0).mono ?_; rintro e w1 ⟨rfl, hb⟩; have kA : Blk w1 w.heap.size 29 #[.bool on0, .slice a0 len0 cap0, .int .i64 lo0, .int .i64 hi0] := Blk.below (((Blk.new_at rfl).alloc _).alloc _) hb; have kB : Blk w1 (w.heap.size + 1) 29 #[.bool on1, .slice a1 len1 cap1, .int .i64 lo1, .int .i64 hi1] := Blk.below ((Blk.new_at (by simp only [World.size_alloc])).alloc _) hb; have kC : Blk w1 (w.heap.size + 1 + 1) 29 #[.bool false, .slice none 0 0, .int .i64 0, .int .i64 0] := Blk.below (Blk.new_at (by simp only [World.size_alloc])) hb; obtain ⟨c0, c1, c2, c3⟩ := kA.four; obtain ⟨d0, d1, d2, d3⟩ := kB.four; obtain ⟨r0, r1, r2, r3⟩ := kC.four; obtain ⟨f0, f1, f2, f3⟩ := kC.free; have zA := kA.lt; have zB := kB.lt; have zC := kC.lt; have hS : Below w.heap.size w w1 := below_on ((((Below.refl w.heap.size w).alloc (Nat.le_refl _) _).alloc (by simp only [World.size_alloc]; omega) _).alloc (by simp only [World.size_alloc]; omega) _) hb; clear hb)
  all_goals refine bodyPost_ret (by simp [results, Try.results20, go_sem, *]; try rfl) rfl ?_
  all_goals exact ⟨rfl, by go_grown⟩
set_option maxRecDepth 100000 in
set_option maxHeartbeats 8000000 in
theorem absWide_s1 (on0 : Bool) (a0 : Option Addr) (len0 cap0 : Nat) (lo0 hi0 : Int) (z0 : List (Int × Int)) (on1 : Bool) (a1 : Option Addr) (len1 cap1 : Nat) (lo1 hi1 : Int) (z1 : List (Int × Int)) (w : World) (hz0 : RdI w a0 len0 z0) (hl0 : len0 ≤ 1048576) (hz1 : RdI w a1 len1 z1) (hl1 : len1 ≤ 1048576) (h0 : absOk on0 z0 (lo0, hi0) = true) (h1 : absOk on1 z1 (lo1, hi1) = false) : Calls Try.prog 20 #[.agg #[.bool on0, .slice a0 len0 cap0, .int .i64 lo0, .int .i64 hi0], .agg #[.bool on1, .slice a1 len1 cap1, .int .i64 lo1, .int .i64 hi1]] w (EmptyR w) := by
  have HZ0 := Lib.hid hz0
  have HZ1 := Lib.hid hz1
  have H0 := Lib.hid h0
  have H1 := Lib.hid h1
  clear hz0 hz1 h0 h1
  go_enter Try.func20, Try.ntmps20
  go_wp2_with (go_at_call 11; first | (have _hk := hS; refine (absOk_sx H1.out _ (HZ1.out.below hS) hl1).mono ?_; rintro e w2 ⟨rfl, hb⟩; clear c0 c1 c2 c3 d0 d1 d2 d3 r0 r1 r2 r3 f0 f1 f2 f3 zA zB zC; replace kA := kA.below hb; replace kB := kB.below hb; replace kC := kC.below hb; obtain ⟨c0, c1, c2, c3⟩ := kA.four; obtain ⟨d0, d1, d2, d3⟩ := kB.four; obtain ⟨r0, r1, r2, r3⟩ := kC.four; obtain ⟨f0, f1, f2, f3⟩ := kC.free; have zA := kA.lt; have zB := kB.lt; have zC := kC.lt; have hS2 : Below w.heap.size w w2 := below_on hS hb; clear hS hb) | (refine (absOk_sx H0.out _ (HZ0.out.below ((((Below.refl w.heap.size w).alloc (Nat.le_refl _) _).alloc (by simp only [World.size_alloc]; omega) _).alloc (by simp only [World.size_alloc]; omega) _)) hl0).mono ?_; rintro e w1 ⟨rfl, hb⟩; have kA : Blk w1 w.heap.size 29 #[.bool on0, .slice a0 len0 cap0, .int .i64 lo0, .int .i64 hi0] := Blk.below (((Blk.new_at rfl).alloc _).alloc _) hb; have kB : Blk w1 (w.heap.size + 1) 29 #[.bool on1, .slice a1 len1 cap1, .int .i64 lo1, .int .i64 hi1] := Blk.below ((Blk.new_at (by simp only [World.size_alloc])).alloc _) hb; have kC : Blk w1 (w.heap.size + 1 + 1) 29 #[.bool false, .slice none 0 0, .int .i64 0, .int .i64 0] := Blk.below (Blk.new_at (by simp only [World.size_alloc])) hb; obtain ⟨c0, c1, c2, c3⟩ := kA.four; obtain ⟨d0, d1, d2, d3⟩ := kB.four; obtain ⟨r0, r1, r2, r3⟩ := kC.four; obtain ⟨f0, f1, f2, f3⟩ := kC.free; have zA := kA.lt; have zB := kB.lt; have zC := kC.lt; have hS : Below w.heap.size w w1 := below_on ((((Below.refl w.heap.size w).alloc (Nat.le_refl _) _).alloc (by simp only [World.size_alloc]; omega) _).alloc (by simp only [World.size_alloc]; omega) _) hb; clear hb))
  all_goals refine bodyPost_ret (by simp [results, Try.results20, go_sem, *]; try rfl) rfl ?_
  all_goals exact ⟨rfl, by go_grown⟩
set_option maxRecDepth 100000 in
set_option maxHeartbeats 8000000 in
theorem absWide_s2 (a0 : Option Addr) (len0 cap0 : Nat) (lo0 hi0 : Int) (z0 : List (Int × Int)) (a1 : Option Addr) (len1 cap1 : Nat) (lo1 hi1 : Int) (z1 : List (Int × Int)) (w : World) (hz0 : RdI w a0 len0 z0) (hl0 : len0 ≤ 1048576) (hz1 : RdI w a1 len1 z1) (hl1 : len1 ≤ 1048576) (h0 : absOk false z0 (lo0, hi0) = true) (h1 : absOk false z1 (lo1, hi1) = true) : Calls Try.prog 20 #[.agg #[.bool false, .slice a0 len0 cap0, .int .i64 lo0, .int .i64 hi0], .agg #[.bool false, .slice a1 len1 cap1, .int .i64 lo1, .int .i64 hi1]] w (EmptyR w) := by
  have HZ0 := Lib.hid hz0
  have HZ1 := Lib.hid hz1
  have H0 := Lib.hid h0
  have H1 := Lib.hid h1
  clear hz0 hz1 h0 h1
  go_enter Try.func20, Try.ntmps20
  go_wp2_with (first | (go_at_call 11; first | (have _hk := hS; refine (absOk_sx H1.out _ (HZ1.out.below hS) hl1).mono ?_; rintro e w2 ⟨rfl, hb⟩; clear c0 c1 c2 c3 d0 d1 d2 d3 r0 r1 r2 r3 f0 f1 f2 f3 zA zB zC; replace kA := kA.below hb; replace kB := kB.below hb; replace kC := kC.below hb; obtain ⟨c0, c1, c2, c3⟩ := kA.four; obtain ⟨d0, d1, d2, d3⟩ := kB.four; obtain ⟨r0, r1, r2, r3⟩ := kC.four; obtain ⟨f0, f1, f2, f3⟩ := kC.free; have zA := kA.lt; have zB := kB.lt; have zC := kC.lt; have hS2 : Below w.heap.size w w2 := below_on hS hb; clear hS hb) | (refine (absOk_sx H0.out _ (HZ0.out.below ((((Below.refl w.heap.size w).alloc (Nat.le_refl _) _).alloc (by simp only [World.size_alloc]; omega) _).alloc (by simp only [World.size_alloc]; omega) _)) hl0).mono ?_; rintro e w1 ⟨rfl, hb⟩; have kA : Blk w1 w.heap.size 29 #[.bool false, .slice a0 len0 cap0, .int .i64 lo0, .int .i64 hi0] := Blk.below (((Blk.new_at rfl).alloc _).alloc _) hb; have kB : Blk w1 (w.heap.size + 1) 29 #[.bool false, .slice a1 len1 cap1, .int .i64 lo1, .int .i64 hi1] := Blk.below ((Blk.new_at (by simp only [World.size_alloc])).alloc _) hb; have kC : Blk w1 (w.heap.size + 1 + 1) 29 #[.bool false, .slice none 0 0, .int .i64 0, .int .i64 0] := Blk.below (Blk.new_at (by simp only [World.size_alloc])) hb; obtain ⟨c0, c1, c2, c3⟩ := kA.four; obtain ⟨d0, d1, d2, d3⟩ := kB.four; obtain ⟨r0, r1, r2, r3⟩ := kC.four; obtain ⟨f0, f1, f2, f3⟩ := kC.free; have zA := kA.lt; have zB := kB.lt; have zC := kC.lt; have hS : Below w.heap.size w w1 := below_on ((((Below.refl w.heap.size w).alloc (Nat.le_refl _) _).alloc (by simp only [World.size_alloc]; omega) _).alloc (by simp only [World.size_alloc]; omega) _) hb; clear hb)) | (go_at_call 38; refine (copy_off _ _ _ _ _ _).mono ?_; rintro e w3 ⟨rfl, hb⟩; clear c0 c1 c2 c3 d0 d1 d2 d3 r0 r1 r2 r3 f0 f1 f2 f3 zA zB zC; replace kA := kA.below hb; replace kB := kB.below hb; replace kC := kC.below hb; obtain ⟨c0, c1, c2, c3⟩ := kA.four; obtain ⟨d0, d1, d2, d3⟩ := kB.four; obtain ⟨r0, r1, r2, r3⟩ := kC.four; obtain ⟨f0, f1, f2, f3⟩ := kC.free; have zA := kA.lt; have zB := kB.lt; have zC := kC.lt; have hS3 : Below w.heap.size w w3 := below_on hS2 hb; clear hS2 hb))
  all_goals refine bodyPost_ret (by simp [results, Try.results20, go_sem, *]; try rfl) rfl ?_
  all_goals exact ⟨rfl, by go_grown⟩
set_option maxRecDepth 100000 in
set_option maxHeartbeats 8000000 in
theorem absWide_s3 (a0 : Option Addr) (len0 cap0 : Nat) (lo0 hi0 : Int) (z0 : List (Int × Int)) (a1 : Option Addr) (len1 cap1 : Nat) (lo1 hi1 : Int) (z1 : List (Int × Int)) (w : World) (hz0 : RdI w a0 len0 z0) (hl0 : len0 ≤ 1048576) (hz1 : RdI w a1 len1 z1) (hl1 : len1 ≤ 1048576) (ha0 : AtHead a0 len0 cap0) (ha1 : AtHead a1 len1 cap1) (h0 : absOk false z0 (lo0, hi0) = true) (h1 : absOk true z1 (lo1, hi1) = true) : Calls Try.prog 20 #[.agg #[.bool false, .slice a0 len0 cap0, .int .i64 lo0, .int .i64 hi0], .agg #[.bool true, .slice a1 len1 cap1, .int .i64 lo1, .int .i64 hi1]] w (FullR w lo1 hi1 z1) := by
  obtain rfl : len1 = 4 := hz1.1.symm.trans (four_of_ok h1)
  obtain ⟨gx, rfl⟩ : ∃ g, a1 = some ⟨g, 0, none⟩ := ha1.2.resolve_left (by omega)
  clear ha0 ha1
  have HZ0 := Lib.hid hz0
  have HZ1 := Lib.hid hz1
  have H0 := Lib.hid h0
  have H1 := Lib.hid h1
  clear hz0 hz1 h0 h1
  go_enter Try.func20, Try.ntmps20
  go_wp2_with (first | (go_at_call 11; first | (have _hk := hS; refine (absOk_sx H1.out _ (HZ1.out.below hS) hl1).mono ?_; rintro e w2 ⟨rfl, hb⟩; clear c0 c1 c2 c3 d0 d1 d2 d3 r0 r1 r2 r3 f0 f1 f2 f3 zA zB zC; replace kA := kA.below hb; replace kB := kB.below hb; replace kC := kC.below hb; obtain ⟨c0, c1, c2, c3⟩ := kA.four; obtain ⟨d0, d1, d2, d3⟩ := kB.four; obtain ⟨r0, r1, r2, r3⟩ := kC.four; obtain ⟨f0, f1, f2, f3⟩ := kC.free; have zA := kA.lt; have zB := kB.lt; have zC := kC.lt; have hS2 : Below w.heap.size w w2 := below_on hS hb; clear hS hb) | (refine (absOk_sx H0.out _ (HZ0.out.below ((((Below.refl w.heap.size w).alloc (Nat.le_refl _) _).alloc (by simp only [World.size_alloc]; omega) _).alloc (by simp only [World.size_alloc]; omega) _)) hl0).mono ?_; rintro e w1 ⟨rfl, hb⟩; have kA : Blk w1 w.heap.size 29 #[.bool false, .slice a0 len0 cap0, .int .i64 lo0, .int .i64 hi0] := Blk.below (((Blk.new_at rfl).alloc _).alloc _) hb; have kB : Blk w1 (w.heap.size + 1) 29 #[.bool true, .slice (some ⟨gx, 0, none⟩) 4 cap1, .int .i64 lo1, .int .i64 hi1] := Blk.below ((Blk.new_at (by simp only [World.size_alloc])).alloc _) hb; have kC : Blk w1 (w.heap.size + 1 + 1) 29 #[.bool false, .slice none 0 0, .int .i64 0, .int .i64 0] := Blk.below (Blk.new_at (by simp only [World.size_alloc])) hb; obtain ⟨c0, c1, c2, c3⟩ := kA.four; obtain ⟨d0, d1, d2, d3⟩ := kB.four; obtain ⟨r0, r1, r2, r3⟩ := kC.four; obtain ⟨f0, f1, f2, f3⟩ := kC.free; have zA := kA.lt; have zB := kB.lt; have zC := kC.lt; have hS : Below w.heap.size w w1 := below_on ((((Below.refl w.heap.size w).alloc (Nat.le_refl _) _).alloc (by simp only [World.size_alloc]; omega) _).alloc (by simp only [World.size_alloc]; omega) _) hb; clear hb)) | (go_at_call 38; refine (copy_on gx cap1 lo1 hi1 z1 _ (HZ1.out.below hS2)).mono ?_; rintro e w3 ⟨gg, cp, rfl, hgg, ho, hb⟩; have HO := Lib.hid ho; have hge := hS2.size; have hne : w.heap.size + 1 + 1 < gg := (by omega); clear ho; clear c0 c1 c2 c3 d0 d1 d2 d3 r0 r1 r2 r3 f0 f1 f2 f3 zA zB zC; replace kA := kA.below hb; replace kB := kB.below hb; replace kC := kC.below hb; obtain ⟨c0, c1, c2, c3⟩ := kA.four; obtain ⟨d0, d1, d2, d3⟩ := kB.four; obtain ⟨r0, r1, r2, r3⟩ := kC.four; obtain ⟨f0, f1, f2, f3⟩ := kC.free; have zA := kA.lt; have zB := kB.lt; have zC := kC.lt; have hS3 : Below w.heap.size w w3 := below_on hS2 hb; clear hS2 hb))
  all_goals refine bodyPost_ret (by simp [results, Try.results20, go_sem, *]; try rfl) rfl ?_
  all_goals (unfold FullR; exact ⟨gg, cp, rfl, by omega, (((HO.out.far (by simp only []; omega) _).far (by simp only []; omega) _).far (by simp only []; omega) _).far (by simp only []; omega) _, (((hS3.setCell (by simp only []; omega) _).setCell (by simp only []; omega) _).setCell (by simp only []; omega) _).setCell (by simp only []; omega) _⟩)
set_option maxRecDepth 100000 in
set_option maxHeartbeats 8000000 in
theorem absWide_s4 (a0 : Option Addr) (len0 cap0 : Nat) (lo0 hi0 : Int) (z0 : List (Int × Int)) (a1 : Option Addr) (len1 cap1 : Nat) (lo1 hi1 : Int) (z1 : List (Int × Int)) (w : World) (hz0 : RdI w a0 len0 z0) (hl0 : len0 ≤ 1048576) (hz1 : RdI w a1 len1 z1) (hl1 : len1 ≤ 1048576) (ha0 : AtHead a0 len0 cap0) (ha1 : AtHead a1 len1 cap1) (h0 : absOk true z0 (lo0, hi0) = true) (h1 : absOk false z1 (lo1, hi1) = true) : Calls Try.prog 20 #[.agg #[.bool true, .slice a0 len0 cap0, .int .i64 lo0, .int .i64 hi0], .agg #[.bool false, .slice a1 len1 cap1, .int .i64 lo1, .int .i64 hi1]] w (FullR w lo0 hi0 z0) := by
  obtain rfl : len0 = 4 := hz0.1.symm.trans (four_of_ok h0)
  obtain ⟨gx, rfl⟩ : ∃ g, a0 = some ⟨g, 0, none⟩ := ha0.2.resolve_left (by omega)
  clear ha0 ha1
  have HZ0 := Lib.hid hz0
  have HZ1 := Lib.hid hz1
  have H0 := Lib.hid h0
  have H1 := Lib.hid h1
  clear hz0 hz1 h0 h1
  go_enter Try.func20, Try.ntmps20
  go_wp2_with (first | (go_at_call 11; first | (have _hk := hS; refine (absOk_sx H1.out _ (HZ1.out.below hS) hl1).mono ?_; rintro e w2 ⟨rfl, hb⟩; clear c0 c1 c2 c3 d0 d1 d2 d3 r0 r1 r2 r3 f0 f1 f2 f3 zA zB zC; replace kA := kA.below hb; replace kB := kB.below hb; replace kC := kC.below hb; obtain ⟨c0, c1, c2, c3⟩ := kA.four; obtain ⟨d0, d1, d2, d3⟩ := kB.four; obtain ⟨r0, r1, r2, r3⟩ := kC.four; obtain ⟨f0, f1, f2, f3⟩ := kC.free; have zA := kA.lt; have zB := kB.lt; have zC := kC.lt; have hS2 : Below w.heap.size w w2 := below_on hS hb; clear hS hb) | (refine (absOk_sx H0.out _ (HZ0.out.below ((((Below.refl w.heap.size w).alloc (Nat.le_refl _) _).alloc (by simp only [World.size_alloc]; omega) _).alloc (by simp only [World.size_alloc]; omega) _)) hl0).mono ?_; rintro e w1 ⟨rfl, hb⟩; have kA : Blk w1 w.heap.size 29 #[.bool true, .slice (some ⟨gx, 0, none⟩) 4 cap0, .int .i64 lo0, .int .i64 hi0] := Blk.below (((Blk.new_at rfl).alloc _).alloc _) hb; have kB : Blk w1 (w.heap.size + 1) 29 #[.bool false, .slice a1 len1 cap1, .int .i64 lo1, .int .i64 hi1] := Blk.below ((Blk.new_at (by simp only [World.size_alloc])).alloc _) hb; have kC : Blk w1 (w.heap.size + 1 + 1) 29 #[.bool false, .slice none 0 0, .int .i64 0, .int .i64 0] := Blk.below (Blk.new_at (by simp only [World.size_alloc])) hb; obtain ⟨c0, c1, c2, c3⟩ := kA.four; obtain ⟨d0, d1, d2, d3⟩ := kB.four; obtain ⟨r0, r1, r2, r3⟩ := kC.four; obtain ⟨f0, f1, f2, f3⟩ := kC.free; have zA := kA.lt; have zB := kB.lt; have zC := kC.lt; have hS : Below w.heap.size w w1 := below_on ((((Below.refl w.heap.size w).alloc (Nat.le_refl _) _).alloc (by simp only [World.size_alloc]; omega) _).alloc (by simp only [World.size_alloc]; omega) _) hb; clear hb)) | (go_at_call 38; refine (copy_on gx cap0 lo0 hi0 z0 _ (HZ0.out.below hS2)).mono ?_; rintro e w3 ⟨gg, cp, rfl, hgg, ho, hb⟩; have HO := Lib.hid ho; have hge := hS2.size; have hne : w.heap.size + 1 + 1 < gg := (by omega); clear ho; clear c0 c1 c2 c3 d0 d1 d2 d3 r0 r1 r2 r3 f0 f1 f2 f3 zA zB zC; replace kA := kA.below hb; replace kB := kB.below hb; replace kC := kC.below hb; obtain ⟨c0, c1, c2, c3⟩ := kA.four; obtain ⟨d0, d1, d2, d3⟩ := kB.four; obtain ⟨r0, r1, r2, r3⟩ := kC.four; obtain ⟨f0, f1, f2, f3⟩ := kC.free; have zA := kA.lt; have zB := kB.lt; have zC := kC.lt; have hS3 : Below w.heap.size w w3 := below_on hS2 hb; clear hS2 hb))
  all_goals refine bodyPost_ret (by simp [results, Try.results20, go_sem, *]; try rfl) rfl ?_
  all_goals (unfold FullR; exact ⟨gg, cp, rfl, by omega, (((HO.out.far (by simp only []; omega) _).far (by simp only []; omega) _).far (by simp only []; omega) _).far (by simp only []; omega) _, (((hS3.setCell (by simp only []; omega) _).setCell (by simp only []; omega) _).setCell (by simp only []; omega) _).setCell (by simp only []; omega) _⟩)
/-- The bounds, place by place. -/
def eachWide (z0 z1 : List (Int × Int)) : List (Int × Int) := (List.range 4).map fun i => wideI (z0.getD i (0, 0)) (z1.getD i (0, 0))
theorem eachWide_len (z0 z1 : List (Int × Int)) : (eachWide z0 z1).length = 4 := by simp [eachWide]
theorem eachWide_get (z0 z1 : List (Int × Int)) {k : Nat} (h : k < 4) : (eachWide z0 z1).getD k (0, 0) = wideI (z0.getD k (0, 0)) (z1.getD k (0, 0)) := by
  simp [eachWide, List.getD_eq_getElem?_getD, h]
set_option maxRecDepth 100000 in
set_option maxHeartbeats 8000000 in
theorem absWide_s5 (a0 : Option Addr) (len0 cap0 : Nat) (lo0 hi0 : Int) (z0 : List (Int × Int)) (a1 : Option Addr) (len1 cap1 : Nat) (lo1 hi1 : Int) (z1 : List (Int × Int)) (w : World) (hz0 : RdI w a0 len0 z0) (hl0 : len0 ≤ 1048576) (hz1 : RdI w a1 len1 z1) (hl1 : len1 ≤ 1048576) (ha0 : AtHead a0 len0 cap0) (ha1 : AtHead a1 len1 cap1) (h0 : absOk true z0 (lo0, hi0) = true) (h1 : absOk true z1 (lo1, hi1) = true) (jl jh : Int) (hj : wideI (lo0, hi0) (lo1, hi1) = (jl, jh)) : Calls Try.prog 20 #[.agg #[.bool true, .slice a0 len0 cap0, .int .i64 lo0, .int .i64 hi0], .agg #[.bool true, .slice a1 len1 cap1, .int .i64 lo1, .int .i64 hi1]] w (FullR w jl jh (eachWide z0 z1)) := by
  obtain rfl : len0 = 4 := hz0.1.symm.trans (four_of_ok h0)
  obtain rfl : len1 = 4 := hz1.1.symm.trans (four_of_ok h1)
  obtain ⟨ga, rfl⟩ : ∃ g, a0 = some ⟨g, 0, none⟩ := ha0.2.resolve_left (by omega)
  obtain ⟨gb, rfl⟩ : ∃ g, a1 = some ⟨g, 0, none⟩ := ha1.2.resolve_left (by omega)
  obtain ⟨i0, hi0', hz0', hz1', hz2'⟩ := info_parts info_itv2
  have hc0 : 4 ≤ cap0 := ha0.1
  have hc1 : 4 ≤ cap1 := ha1.1
  have HJ := Lib.hid hj
  clear ha0 ha1 hj
  have HZ0 := Lib.hid hz0
  have HZ1 := Lib.hid hz1
  have H0 := Lib.hid h0
  have H1 := Lib.hid h1
  clear hz0 hz1 h0 h1
  go_enter Try.func20, Try.ntmps20

  go_wp2_with (first | (go_at_call 11; first | (have _hk := hS; refine (absOk_sx H1.out _ (HZ1.out.below hS) hl1).mono ?_; rintro e w2 ⟨rfl, hb⟩; clear c0 c1 c2 c3 d0 d1 d2 d3 r0 r1 r2 r3 f0 f1 f2 f3 zA zB zC; replace kA := kA.below hb; replace kB := kB.below hb; replace kC := kC.below hb; obtain ⟨c0, c1, c2, c3⟩ := kA.four; obtain ⟨d0, d1, d2, d3⟩ := kB.four; obtain ⟨r0, r1, r2, r3⟩ := kC.four; obtain ⟨f0, f1, f2, f3⟩ := kC.free; have zA := kA.lt; have zB := kB.lt; have zC := kC.lt; have hS2 : Below w.heap.size w w2 := below_on hS hb; clear hS hb) | (refine (absOk_sx H0.out _ (HZ0.out.below ((((Below.refl w.heap.size w).alloc (Nat.le_refl _) _).alloc (by simp only [World.size_alloc]; omega) _).alloc (by simp only [World.size_alloc]; omega) _)) hl0).mono ?_; rintro e w1 ⟨rfl, hb⟩; have kA : Blk w1 w.heap.size 29 #[.bool true, .slice (some ⟨ga, 0, none⟩) 4 cap0, .int .i64 lo0, .int .i64 hi0] := Blk.below (((Blk.new_at rfl).alloc _).alloc _) hb; have kB : Blk w1 (w.heap.size + 1) 29 #[.bool true, .slice (some ⟨gb, 0, none⟩) 4 cap1, .int .i64 lo1, .int .i64 hi1] := Blk.below ((Blk.new_at (by simp only [World.size_alloc])).alloc _) hb; have kC : Blk w1 (w.heap.size + 1 + 1) 29 #[.bool false, .slice none 0 0, .int .i64 0, .int .i64 0] := Blk.below (Blk.new_at (by simp only [World.size_alloc])) hb; obtain ⟨c0, c1, c2, c3⟩ := kA.four; obtain ⟨d0, d1, d2, d3⟩ := kB.four; obtain ⟨r0, r1, r2, r3⟩ := kC.four; obtain ⟨f0, f1, f2, f3⟩ := kC.free; have zA := kA.lt; have zB := kB.lt; have zC := kC.lt; have hS : Below w.heap.size w w1 := below_on ((((Below.refl w.heap.size w).alloc (Nat.le_refl _) _).alloc (by simp only [World.size_alloc]; omega) _).alloc (by simp only [World.size_alloc]; omega) _) hb; clear hb)) | (go_at_call 48; refine (wide_sx HJ.out _).mono ?_; rintro e w3 ⟨rfl, hb⟩; clear c0 c1 c2 c3 d0 d1 d2 d3 r0 r1 r2 r3 f0 f1 f2 f3 zA zB zC; replace kA := kA.below hb; replace kB := kB.below hb; replace kC := kC.below hb; obtain ⟨c0, c1, c2, c3⟩ := kA.four; obtain ⟨d0, d1, d2, d3⟩ := kB.four; obtain ⟨r0, r1, r2, r3⟩ := kC.four; obtain ⟨f0, f1, f2, f3⟩ := kC.free; have zA := kA.lt; have zB := kB.lt; have zC := kC.lt; have hS3 : Below w.heap.size w w3 := below_on hS2 hb; clear hS2 hb))
  have HA := Lib.hid kA
  have HB := Lib.hid kB
  have HC := Lib.hid kC
  have hs3 := hS3.size
  clear c0 c1 c2 c3 d0 d1 d2 d3 r0 r1 r2 r3 f0 f1 f2 f3 kA kB kC
  have hR0 : RJ0 w3 (.slice none 0 0) jl jh (w3.alloc (.cells #[.bool true, .slice none 0 0, .int .i64 jl, .int .i64 jh] 29)) := ⟨(Below.refl _ _).alloc (Nat.le_refl _) _, Blk.new _ _ _⟩
  go_loopw [6] (fun i wr => ∃ (k : Nat) (v : Value), k ≤ 4 ∧ i = .int .i64 k ∧ Hid (RJ0 w3 v jl jh wr ∧ wr.ownsRow (w3.heap.size + 1) 27 2 v k (cellsI ((eachWide z0 z1).take k)))) (fun i _ => 4 - (intOf i).toNat)
  case atStart => exact ⟨0, _, by omega, rfl, Lib.hid ⟨hR0, World.ownsRow_nil _ _ _ _⟩⟩
  case round =>
    clear hR0
    obtain ⟨k, v, hk, rfl, hH⟩ := hrel
    by_cases hlt : k < 4
    · have hlk : (k : Int) < 4 := by omega
      have hk0 : (0 : Int) ≤ (k : Int) := by omega
      obtain ⟨x, hx, hxx⟩ := rd_some (HZ0.out.below hS3) (by omega)
      obtain ⟨y, hy, hyy⟩ := rd_some (HZ1.out.below hS3) (by omega)
      obtain rfl := Option.some.inj hx
      obtain rfl := Option.some.inj hy
      obtain ⟨q0, q1⟩ := hxx k hlt
      obtain ⟨q2, q3⟩ := hyy k hlt
      have hsn := eachWide_get z0 z1 hlt
      obtain ⟨⟨l0, u0⟩, e0⟩ : ∃ q, q = z0.getD k (0, 0) := ⟨_, rfl⟩
      obtain ⟨⟨l1, u1⟩, e1⟩ : ∃ q, q = z1.getD k (0, 0) := ⟨_, rfl⟩
      rw [← e0] at q0 q1 hsn
      rw [← e1] at q2 q3 hsn
      obtain ⟨⟨vl, vh⟩, e2⟩ : ∃ q, q = wideI (l0, u0) (l1, u1) := ⟨_, rfl⟩
      rw [← e2] at hsn
      have HV := Lib.hid e2.symm
      have HT := Lib.hid (show cellsI ((eachWide z0 z1).take (k + 1)) = cellsI ((eachWide z0 z1).take k) ++ [Value.int .i64 vl, Value.int .i64 vh] by
        rw [List.take_succ_eq_append_getElem (by rw [eachWide_len]; exact hlt), cellsI_snoc]
        rw [List.getD_eq_getElem?_getD, List.getElem?_eq_getElem (by rw [eachWide_len]; exact hlt), Option.getD_some] at hsn
        rw [hsn])
      rw [add_none, Nat.zero_add] at q0 q1 q2 q3
      simp only at q0 q1 q2 q3
      have Q0 := Lib.hid q0
      have Q1 := Lib.hid q1
      have Q2 := Lib.hid q2
      have Q3 := Lib.hid q3
      clear hx hy hxx hyy q0 q1 q2 q3 e0 e1 e2 hsn
      have hown0 := hH.out.2
      have hz := hH.out.1.lt
      have HO := Lib.hid hown0
      clear hown0
      go_wp2_with fail
      refine last_begin (fun w' => w'.cell? ⟨w.heap.size, 1, none⟩ = some (.slice (some ⟨ga, 0, none⟩) 4 cap0) ∧ w'.cell? ⟨w.heap.size + 1, 1, none⟩ = some (.slice (some ⟨gb, 0, none⟩) 4 cap1) ∧ w'.cell? ⟨ga, k * 2, none⟩ = some (.int .i64 l0) ∧ w'.cell? ⟨ga, k * 2 + 1, none⟩ = some (.int .i64 u0) ∧ w'.cell? ⟨gb, k * 2, none⟩ = some (.int .i64 l1) ∧ w'.cell? ⟨gb, k * 2 + 1, none⟩ = some (.int .i64 u1) ∧ w'.cell? ⟨w3.heap.size, 1, none⟩ = some v ∧ RJ0 w3 v jl jh w') 16 (by kernel_rfl) ?_
      have hHeld := (RJ0.six hH.out.1.drew (HA.out.cell 1) (HB.out.cell 1) Q0.out Q1.out Q2.out Q3.out)
      refine last_take (i := 0) (v := ?v_0) rfl (by kernel_rfl) (by kernel_rfl) (by kernel_rfl) (by kernel_rfl) (by decide) (fun _ _ _ h => h) (by rfl) ?y_0 hHeld ?r_0
      case y_0 => (intro w' hSw; go_simp); all_goals (with_reducible rfl)
      case r_0 =>
      try simp only [Act.put, List.setIfInBounds_toArray, List.set_cons_zero, List.set_cons_succ]
      refine last_take (i := 1) (v := ?v_1) rfl (by kernel_rfl) (by kernel_rfl) (by kernel_rfl) (by kernel_rfl) (by decide) (fun _ _ _ h => h) (by rfl) ?y_1 hHeld ?r_1
      case y_1 => (intro w' hSw; go_simp); all_goals (with_reducible rfl)
      case r_1 =>
      try simp only [Act.put, List.setIfInBounds_toArray, List.set_cons_zero, List.set_cons_succ]
      refine last_take (i := 2) (v := ?v_2) rfl (by kernel_rfl) (by kernel_rfl) (by kernel_rfl) (by kernel_rfl) (by decide) (fun _ _ _ h => h) (by rfl) ?y_2 hHeld ?r_2
      case y_2 => (intro w' hSw; go_simp); all_goals (with_reducible rfl)
      case r_2 =>
      try simp only [Act.put, List.setIfInBounds_toArray, List.set_cons_zero, List.set_cons_succ]
      refine last_take (i := 3) (v := ?v_3) rfl (by kernel_rfl) (by kernel_rfl) (by kernel_rfl) (by kernel_rfl) (by decide) (fun _ _ _ h => h) (by rfl) ?y_3 hHeld ?r_3
      case y_3 => (intro w' hSw; go_simp); all_goals (with_reducible rfl)
      case r_3 =>
      try simp only [Act.put, List.setIfInBounds_toArray, List.set_cons_zero, List.set_cons_succ]
      refine last_take (i := 4) (v := ?v_4) rfl (by kernel_rfl) (by kernel_rfl) (by kernel_rfl) (by kernel_rfl) (by decide) (fun _ _ _ h => h) (by rfl) ?y_4 hHeld ?r_4
      case y_4 => (intro w' hSw; go_simp); all_goals (with_reducible rfl)
      case r_4 =>
      try simp only [Act.put, List.setIfInBounds_toArray, List.set_cons_zero, List.set_cons_succ]
      refine last_take (i := 5) (v := ?v_5) rfl (by kernel_rfl) (by kernel_rfl) (by kernel_rfl) (by kernel_rfl) (by decide) (fun _ _ _ h => h) (by rfl) ?y_5 hHeld ?r_5
      case y_5 => (intro w' hSw; go_simp); all_goals (with_reducible rfl)
      case r_5 =>
      try simp only [Act.put, List.setIfInBounds_toArray, List.set_cons_zero, List.set_cons_succ]
      refine last_take (i := 6) (v := ?v_6) rfl (by kernel_rfl) (by kernel_rfl) (by kernel_rfl) (by kernel_rfl) (by decide) (fun _ _ _ h => h) (by rfl) ?y_6 hHeld ?r_6
      case y_6 => (intro w' hSw; go_simp); all_goals (with_reducible rfl)
      case r_6 =>
      try simp only [Act.put, List.setIfInBounds_toArray, List.set_cons_zero, List.set_cons_succ]
      refine last_take (i := 7) (v := ?v_7) rfl (by kernel_rfl) (by kernel_rfl) (by kernel_rfl) (by kernel_rfl) (by decide) (fun _ _ _ h => h) (by rfl) ?y_7 hHeld ?r_7
      case y_7 => (intro w' hSw; go_simp); all_goals (with_reducible rfl)
      case r_7 =>
      try simp only [Act.put, List.setIfInBounds_toArray, List.set_cons_zero, List.set_cons_succ]
      refine last_take (i := 8) (v := ?v_8) rfl (by kernel_rfl) (by kernel_rfl) (by kernel_rfl) (by kernel_rfl) (by decide) (fun _ _ _ h => h) (by rfl) ?y_8 hHeld ?r_8
      case y_8 => (intro w' hSw; go_simp); all_goals (with_reducible rfl)
      case r_8 =>
      try simp only [Act.put, List.setIfInBounds_toArray, List.set_cons_zero, List.set_cons_succ]
      refine last_take (i := 9) (v := ?v_9) rfl (by kernel_rfl) (by kernel_rfl) (by kernel_rfl) (by kernel_rfl) (by decide) (fun _ _ _ h => h) (by rfl) ?y_9 hHeld ?r_9
      case y_9 => (intro w' hSw; go_simp); all_goals (with_reducible rfl)
      case r_9 =>
      try simp only [Act.put, List.setIfInBounds_toArray, List.set_cons_zero, List.set_cons_succ]
      refine last_take (i := 10) (v := ?v_10) rfl (by kernel_rfl) (by kernel_rfl) (by kernel_rfl) (by kernel_rfl) (by decide) (fun _ _ _ h => h) (by rfl) ?y_10 hHeld ?r_10
      case y_10 => (intro w' hSw; go_simp); all_goals (with_reducible rfl)
      case r_10 =>
      try simp only [Act.put, List.setIfInBounds_toArray, List.set_cons_zero, List.set_cons_succ]
      refine last_take (i := 11) (v := ?v_11) rfl (by kernel_rfl) (by kernel_rfl) (by kernel_rfl) (by kernel_rfl) (by decide) (fun _ _ _ h => h) (by rfl) ?y_11 hHeld ?r_11
      case y_11 => (intro w' hSw; go_simp); all_goals (with_reducible rfl)
      case r_11 =>
      try simp only [Act.put, List.setIfInBounds_toArray, List.set_cons_zero, List.set_cons_succ]
      refine last_one (i := 12) rfl (by kernel_rfl) (by decide) (fun K hK => ?_)
      go_simp
      refine (wide_sx HV.out _).mono ?_
      rintro e w4 ⟨rfl, hb⟩
      have hj4 := hH.out.1.drew.below hb
      have ho4 := below_own (below_own HO.out ((Below.refl _ _).drew)) hb
      have hz4 := hj4.lt
      clear hb
      try go_wp2_with fail
      refine hK.out _ _ (RJ0.six hj4 (HA.out.cell 1) (HB.out.cell 1) Q0.out Q1.out Q2.out Q3.out) ?_
      clear hK K hHeld
      try simp only [Act.put, List.setIfInBounds_toArray, List.set_cons_zero, List.set_cons_succ]
      refine last_one (i := 13) rfl (by kernel_rfl) (by decide) (fun K hK => ?_)
      go_simp
      have hj5 := hj4.alloc (.cells #[Value.int .i64 vl, Value.int .i64 vh] 27)
      refine hK.out _ _ (RJ0.six hj5 (HA.out.cell 1) (HB.out.cell 1) Q0.out Q1.out Q2.out Q3.out) ?_
      clear hK K
      try simp only [Act.put, List.setIfInBounds_toArray, List.set_cons_zero, List.set_cons_succ]
      refine last_one (i := 14) rfl (by kernel_rfl) (by decide) (fun K hK => ?_)
      refine step_append_lies _ (by rfl) _ _ _ (by rfl) (w3.heap.size + 1) 27 i0 _ 2 16 Try.underlying25 hi0' hz0' hz1' hz2' rfl (by omega) v k _ (by rfl) (ho4.alloc _) ⟨w4.heap.size, 0, none⟩ 1 1 [.int .i64 vl, .int .i64 vh] (by rfl) (by rfl) (World.news_of_block (cs := #[.int .i64 vl, .int .i64 vh]) (t := 27) (fr := (0, 0)) (heap_alloc_new w4 _)) (by simp [Value.oneCell']) (by omega) (by unfold maxLen; omega) (by omega) (by simp only [World.size_alloc]; omega) (w4.heap.size + 1) (by simp) ?_
      intro gg cp w5 hown1 hgrow hat hlt'
      have hj6 := hj5.grown hgrow (fun g hg => (ho4.lt g hg).1)
      have hz6 := hj6.lt
      obtain ⟨g0, g1, g2, g3⟩ := hj6.2.four
      obtain ⟨v0, v1, v2, v3⟩ := hj6.2.free
      have hown2 := hown1
      rw [← HT.out] at hown2
      have HW := Lib.hid hown2
      clear hown1 hown2 hgrow hat ho4 hj4 hj5
      refine hK.out _ _ (RJ0.six hj6 (HA.out.cell 1) (HB.out.cell 1) Q0.out Q1.out Q2.out Q3.out) ?_
      clear hK K
      try simp only [Act.put, List.setIfInBounds_toArray, List.set_cons_zero, List.set_cons_succ]
      refine last_one (i := 15) rfl (by kernel_rfl) (by decide) (fun K hK => ?_)
      go_simp
      refine hK.out _ _ (RJ0.six hj6 (HA.out.cell 1) (HB.out.cell 1) Q0.out Q1.out Q2.out Q3.out) ?_
      clear hK K
      try simp only [Act.put, List.setIfInBounds_toArray, List.set_cons_zero, List.set_cons_succ]
      refine last_last rfl (by kernel_rfl) (by kernel_rfl) (fun K hK => ?_)
      go_simp
      refine hK.out _ _ ?_
      clear hK K
      try simp only [Act.put, List.setIfInBounds_toArray, List.set_cons_zero, List.set_cons_succ]
      go_wp2_with fail
      go_roundw
      case rel => exact ⟨k + 1, _, by omega, by go_num, Lib.hid ⟨⟨hj6.1.setCell (Nat.le_refl _) _, hj6.2.set_ 1 _⟩, own_below HW.out (by simp only []; omega) _⟩⟩
      case measure => simp [intOf] <;> omega
    · obtain rfl : k = 4 := by omega
      obtain ⟨hj6, ho⟩ := hH.out
      obtain ⟨gg, cp, rfl, hg1, hg2⟩ := ho.form (by omega)
      have hcp : 4 ≤ cp := own_cap ho
      have hz6 := hj6.lt
      obtain ⟨g0, g1, g2, g3⟩ := hj6.2.four
      have kC := HC.out.below hj6.1
      obtain ⟨r0, r1, r2, r3⟩ := kC.four
      obtain ⟨f0, f1, f2, f3⟩ := kC.free
      have hT : (eachWide z0 z1).take 4 = eachWide z0 z1 := List.take_of_length_le (by rw [eachWide_len]; omega)
      rw [hT] at ho
      have HO := Lib.hid (own_of ho (eachWide_len _ _) (by omega))
      have hS4 : Below w.heap.size w wr := below_on hS3 hj6.1
      clear ho hT hj6 kC hH
      go_wp2_with fail
      refine bodyPost_ret (by simp [results, Try.results20, go_sem, *]; try rfl) rfl ?_
      unfold FullR
      exact ⟨gg, cp, rfl, by omega, (((HO.out.far (by simp only []; omega) _).far (by simp only []; omega) _).far (by simp only []; omega) _).far (by simp only []; omega) _, (((hS4.setCell (by simp only []; omega) _).setCell (by simp only []; omega) _).setCell (by simp only []; omega) _).setCell (by simp only []; omega) _⟩
end Go.Proofs.Ytdpooiiacdfpkaa
