/-
  The reference's draw of two states in an order that hangs on the draw's length: DrawAbsWide. No conditions but a bound on the draw's length.
-/
import Derived.Test.YtdpooiiacdfpkaaDrawS3
namespace Go.Proofs.Ytdpooiiacdfpkaa
set_option linter.unusedSimpArgs false
set_option linter.unusedVariables false
open Go.ChangeShapes Go.WideShapes Go.ChangeAt Go.RowKit Go.Sort
set_option maxRecDepth 100000 in
set_option maxHeartbeats 8000000 in
theorem drawAbsWide_s (a : Option Addr) (len cap : Nat) (z : List Int) (w : World) (hrow : IsRow .u8 w a len cap z) (hlen : len ≤ maxLen) : Calls Try.prog 25 #[.slice a len cap] w (DrawTwo w) := by
  unfold maxLen at hlen
  have hlen0 : (0 : Int) ≤ (len : Int) := by omega
  go_enter Try.func25, Try.ntmps25
  go_wp2_with fail
  refine (drawAbsIn_s _ _ _ _ _ (row_alloc (row_alloc hrow _) _)).mono ?_
  rintro e w0 ⟨on0, a0, len0, cap0, lo0, hi0, z0, on1, a1, len1, cap1, lo1, hi1, z1, rfl, hzz, hl0, hl1, hab0, hab1, hb0⟩
  have kA : Blk w0 w.heap.size 29 #[.bool false, .slice none 0 0, .int .i64 0, .int .i64 0] := Blk.below ((Blk.new_at rfl).alloc _) hb0
  have kB : Blk w0 (w.heap.size + 1) 29 #[.bool false, .slice none 0 0, .int .i64 0, .int .i64 0] := Blk.below (Blk.new_at (by simp only [World.size_alloc])) hb0
  have hS : Below w.heap.size w w0 := below_on (((Below.refl w.heap.size w).alloc (Nat.le_refl _) _).alloc (by simp only [World.size_alloc]; omega) _) hb0
  simp only [World.size_alloc] at hab0 hab1
  obtain ⟨hz0, ha0, hz1, ha1⟩ := hzz.out
  have zB := kB.lt
  clear hb0 hrow hzz
  go_upto_region 2 with fail
  have kP : Blk ((w0.alloc (.cells #[.bool on0, .slice a0 len0 cap0, .int .i64 lo0, .int .i64 hi0] 29)).alloc (.cells #[.bool on1, .slice a1 len1 cap1, .int .i64 lo1, .int .i64 hi1] 29)) w0.heap.size 29 #[.bool on0, .slice a0 len0 cap0, .int .i64 lo0, .int .i64 hi0] := (Blk.new _ _ _).alloc _
  have kQ : Blk ((w0.alloc (.cells #[.bool on0, .slice a0 len0 cap0, .int .i64 lo0, .int .i64 hi0] 29)).alloc (.cells #[.bool on1, .slice a1 len1 cap1, .int .i64 lo1, .int .i64 hi1] 29)) (w0.heap.size + 1) 29 #[.bool on1, .slice a1 len1 cap1, .int .i64 lo1, .int .i64 hi1] := Blk.new_at (by simp only [World.size_alloc])
  replace kA := (kA.alloc (.cells #[.bool on0, .slice a0 len0 cap0, .int .i64 lo0, .int .i64 hi0] 29)).alloc (.cells #[.bool on1, .slice a1 len1 cap1, .int .i64 lo1, .int .i64 hi1] 29)
  replace kB := (kB.alloc (.cells #[.bool on0, .slice a0 len0 cap0, .int .i64 lo0, .int .i64 hi0] 29)).alloc (.cells #[.bool on1, .slice a1 len1 cap1, .int .i64 lo1, .int .i64 hi1] 29)
  have HZ0 := Lib.hid ((hz0.alloc (.cells #[.bool on0, .slice a0 len0 cap0, .int .i64 lo0, .int .i64 hi0] 29)).alloc (.cells #[.bool on1, .slice a1 len1 cap1, .int .i64 lo1, .int .i64 hi1] 29))
  have HZ1 := Lib.hid ((hz1.alloc (.cells #[.bool on0, .slice a0 len0 cap0, .int .i64 lo0, .int .i64 hi0] 29)).alloc (.cells #[.bool on1, .slice a1 len1 cap1, .int .i64 lo1, .int .i64 hi1] 29))
  have hS1 : Below w.heap.size w ((w0.alloc (.cells #[.bool on0, .slice a0 len0 cap0, .int .i64 lo0, .int .i64 hi0] 29)).alloc (.cells #[.bool on1, .slice a1 len1 cap1, .int .i64 lo1, .int .i64 hi1] 29)) := (hS.alloc hS.size _).alloc (by simp only [World.size_alloc]; have := hS.size; omega) _
  clear hz0 hz1 hS
  generalize ((w0.alloc (.cells #[.bool on0, .slice a0 len0 cap0, .int .i64 lo0, .int .i64 hi0] 29)).alloc (.cells #[.bool on1, .slice a1 len1 cap1, .int .i64 lo1, .int .i64 hi1] 29)) = W1 at *
  obtain ⟨r0, r1, r2, r3⟩ := kA.four
  obtain ⟨f0, f1, f2, f3⟩ := kA.free
  obtain ⟨s0, s1, s2, s3⟩ := kB.four
  obtain ⟨t0, t1, t2, t3⟩ := kB.free
  obtain ⟨c0, c1, c2, c3⟩ := kP.four
  obtain ⟨d0, d1, d2, d3⟩ := kQ.four
  have zP := kP.lt
  have zQ := kQ.lt
  have nPA : w0.heap.size ≠ w.heap.size := by omega
  have nPB : w0.heap.size ≠ w.heap.size + 1 := by omega
  have nQA : w0.heap.size + 1 ≠ w.heap.size := by omega
  have nQB : w0.heap.size + 1 ≠ w.heap.size + 1 := by omega
  clear kA kB kP kQ
  go_wp2_with fail
  · go_region_held3 (fun w' => w'.cell? ⟨w0.heap.size, 0, none⟩ = some (.bool on0) ∧ w'.cell? ⟨w0.heap.size, 1, none⟩ = some (.slice a0 len0 cap0) ∧ w'.cell? ⟨w0.heap.size, 2, none⟩ = some (.int .i64 lo0) ∧ w'.cell? ⟨w0.heap.size, 3, none⟩ = some (.int .i64 hi0) ∧ w'.cell? ⟨w0.heap.size + 1, 0, none⟩ = some (.bool on1) ∧ w'.cell? ⟨w0.heap.size + 1, 1, none⟩ = some (.slice a1 len1 cap1) ∧ w'.cell? ⟨w0.heap.size + 1, 2, none⟩ = some (.int .i64 lo1) ∧ w'.cell? ⟨w0.heap.size + 1, 3, none⟩ = some (.int .i64 hi1)) (((try go_split_ands); (refine ⟨?_, ?_, ?_, ?_, ?_, ?_, ?_, ?_⟩); all_goals first | with_reducible assumption | ((with_reducible apply keep_drew); with_reducible assumption) | ((try (with_reducible apply keep_drew)); (repeat (with_reducible refine keep_set _ (by first | exact nPA | exact nPB | exact nQA | exact nQB) ?_)); with_reducible assumption))) (fail)
    go_wp2_with fail
    refine bodyPost_ret (by simp [results, Try.results25, go_sem, *]; try rfl) rfl ?_
    unfold DrawTwo
    exact ⟨on1, a1, len1, cap1, lo1, hi1, z1, on0, a0, len0, cap0, lo0, hi0, z0, rfl, Lib.hid ⟨(rd_put8 HZ1.out (B := w.heap.size + 1 + 1) (fun x hx => by have := hab1 x hx; omega) (by omega) (by omega) _ _ _ _ _ _ _ _).drew', ha1, (rd_put8 HZ0.out (B := w.heap.size + 1 + 1) (fun x hx => by have := hab0 x hx; omega) (by omega) (by omega) _ _ _ _ _ _ _ _).drew', ha0⟩, hl1, hl0, (fun x hx => by have := hab1 x hx; omega), (fun x hx => by have := hab0 x hx; omega), (below_put8 hS1 (by omega) (by omega) _ _ _ _ _ _ _ _).drew⟩
  · go_region_held3 (fun w' => w'.cell? ⟨w0.heap.size, 0, none⟩ = some (.bool on0) ∧ w'.cell? ⟨w0.heap.size, 1, none⟩ = some (.slice a0 len0 cap0) ∧ w'.cell? ⟨w0.heap.size, 2, none⟩ = some (.int .i64 lo0) ∧ w'.cell? ⟨w0.heap.size, 3, none⟩ = some (.int .i64 hi0) ∧ w'.cell? ⟨w0.heap.size + 1, 0, none⟩ = some (.bool on1) ∧ w'.cell? ⟨w0.heap.size + 1, 1, none⟩ = some (.slice a1 len1 cap1) ∧ w'.cell? ⟨w0.heap.size + 1, 2, none⟩ = some (.int .i64 lo1) ∧ w'.cell? ⟨w0.heap.size + 1, 3, none⟩ = some (.int .i64 hi1)) (((try go_split_ands); (refine ⟨?_, ?_, ?_, ?_, ?_, ?_, ?_, ?_⟩); all_goals first | with_reducible assumption | ((with_reducible apply keep_drew); with_reducible assumption) | ((try (with_reducible apply keep_drew)); (repeat (with_reducible refine keep_set _ (by first | exact nPA | exact nPB | exact nQA | exact nQB) ?_)); with_reducible assumption))) (fail)
    go_wp2_with fail
    refine bodyPost_ret (by simp [results, Try.results25, go_sem, *]; try rfl) rfl ?_
    unfold DrawTwo
    exact ⟨on0, a0, len0, cap0, lo0, hi0, z0, on1, a1, len1, cap1, lo1, hi1, z1, rfl, Lib.hid ⟨(rd_put8 HZ0.out (B := w.heap.size + 1 + 1) (fun x hx => by have := hab0 x hx; omega) (by omega) (by omega) _ _ _ _ _ _ _ _).drew', ha0, (rd_put8 HZ1.out (B := w.heap.size + 1 + 1) (fun x hx => by have := hab1 x hx; omega) (by omega) (by omega) _ _ _ _ _ _ _ _).drew', ha1⟩, hl0, hl1, (fun x hx => by have := hab0 x hx; omega), (fun x hx => by have := hab1 x hx; omega), (below_put8 hS1 (by omega) (by omega) _ _ _ _ _ _ _ _).drew⟩
end Go.Proofs.Ytdpooiiacdfpkaa
