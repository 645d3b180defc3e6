/-
  The reference's draws of two states: DrawAbsIn, DrawAbsJoin, DrawAbsWide. No conditions.
-/
import Derived.Test.YtdpooiiacdfpkaaDrawS2
namespace Go.Proofs.Ytdpooiiacdfpkaa
set_option linter.unusedSimpArgs false
set_option linter.unusedVariables false
open Go.ChangeShapes Go.WideShapes Go.ChangeAt Go.RowKit Go.Sort

section
variable {w w' : World} {rb r r1 r2 B n len : Nat} {a : Option Addr} {z : List (Int × Int)} {p : Int}
theorem but_put4 (w : World) (r : Nat) (u0 u1 u2 u3 : Value) : But r w ((((w.setCell ⟨r, 0, none⟩ u0).setCell ⟨r, 1, none⟩ u1).setCell ⟨r, 2, none⟩ u2).setCell ⟨r, 3, none⟩ u3) :=
  ((((But.refl r w).setCell (.inl rfl) u0).setCell (.inl rfl) u1).setCell (.inl rfl) u2).setCell (.inl rfl) u3
theorem rd_put8 (h : RdI w a len z) (hn : ∀ x, a = some x → B ≤ x.block) (h1 : r1 < B) (h2 : r2 < B) (u0 u1 u2 u3 v0 v1 v2 v3 : Value) :
    RdI ((((((((w.setCell ⟨r1, 0, none⟩ u0).setCell ⟨r1, 1, none⟩ u1).setCell ⟨r1, 2, none⟩ u2).setCell ⟨r1, 3, none⟩ u3).setCell ⟨r2, 0, none⟩ v0).setCell ⟨r2, 1, none⟩ v1).setCell ⟨r2, 2, none⟩ v2).setCell ⟨r2, 3, none⟩ v3) a len z :=
  (h.but (but_put4 w r1 u0 u1 u2 u3) (fun x hx => by have := hn x hx; omega)).but (but_put4 _ r2 v0 v1 v2 v3) (fun x hx => by have := hn x hx; omega)
theorem below_put8 (h : Below n w' w) (h1 : n ≤ r1) (h2 : n ≤ r2) (u0 u1 u2 u3 v0 v1 v2 v3 : Value) :
    Below n w' ((((((((w.setCell ⟨r1, 0, none⟩ u0).setCell ⟨r1, 1, none⟩ u1).setCell ⟨r1, 2, none⟩ u2).setCell ⟨r1, 3, none⟩ u3).setCell ⟨r2, 0, none⟩ v0).setCell ⟨r2, 1, none⟩ v1).setCell ⟨r2, 2, none⟩ v2).setCell ⟨r2, 3, none⟩ v3) :=
  (((((((h.setCell h1 u0).setCell h1 u1).setCell h1 u2).setCell h1 u3).setCell h2 v0).setCell h2 v1).setCell h2 v2).setCell h2 v3
theorem but_of_below (h : Below w.heap.size w w') : But rb w w' := ⟨h.os, h.tape, h.output, h.size, fun k hk _ => h.block k hk⟩
theorem row_alloc {k : IntKind} {cap : Nat} {zs : List Int} (h : IsRow k w a len cap zs) (o : Obj) : IsRow k (w.alloc o) a len cap zs := h.mono fun p v _ hv => (World.cell?_alloc_lt _ _ _ (World.block_lt_of_cell? w _ hv)).trans hv
theorem RdI.drew' (h : RdI w a len z) : RdI w.drew a len z := h.below (Below.refl _ _).drew
end
/-- What a draw of two states leaves. -/
def DrawTwo (w : World) (e : Ending) (w' : World) : Prop :=
  ∃ (on0 : Bool) (a0 : Option Addr) (len0 cap0 : Nat) (lo0 hi0 : Int) (z0 : List (Int × Int)) (on1 : Bool) (a1 : Option Addr) (len1 cap1 : Nat) (lo1 hi1 : Int) (z1 : List (Int × Int)),
    e = .returned (.tuple #[.agg #[.bool on0, .slice a0 len0 cap0, .int .i64 lo0, .int .i64 hi0], .agg #[.bool on1, .slice a1 len1 cap1, .int .i64 lo1, .int .i64 hi1]]) ∧ Hid (RdI w' a0 len0 z0 ∧ AtHead a0 len0 cap0 ∧ RdI w' a1 len1 z1 ∧ AtHead a1 len1 cap1) ∧ len0 ≤ 4 ∧ len1 ≤ 4 ∧ (∀ x, a0 = some x → w.heap.size ≤ x.block) ∧ (∀ x, a1 = some x → w.heap.size ≤ x.block) ∧ Below w.heap.size w w'

set_option maxRecDepth 100000 in
set_option maxHeartbeats 8000000 in
theorem drawAbsIn_s (a : Option Addr) (len cap : Nat) (z : List Int) (w : World) (hrow : IsRow .u8 w a len cap z) : Calls Try.prog 50 #[.slice a len cap] w (DrawTwo w) := by
  go_enter Try.func50, Try.ntmps50
  go_wp2_with fail
  refine (open_s _ _ _ _ _ (row_alloc (row_alloc hrow _) _)).mono ?_
  rintro e w0 ⟨rfl, hR0, hb0⟩
  have kA : Blk w0 w.heap.size 29 #[.bool false, .slice none 0 0, .int .i64 0, .int .i64 0] := Blk.below ((Blk.new_at rfl).alloc _) hb0
  have kB : Blk w0 (w.heap.size + 1) 29 #[.bool false, .slice none 0 0, .int .i64 0, .int .i64 0] := Blk.below (Blk.new_at (by simp only [World.size_alloc])) hb0
  have hS : Below w.heap.size w w0 := below_on (((Below.refl w.heap.size w).alloc (Nat.le_refl _) _).alloc (by simp only [World.size_alloc]; omega) _) hb0
  simp only [World.size_alloc] at hR0
  have hzr := hR0.lt
  clear hb0 hrow
  go_wp2_with fail
  refine (l21State_s (w.heap.size + 1 + 1) 0 12 _ hR0 (by omega) (by unfold I64; omega)).mono ?_
  rintro e w1 ⟨on1, a1, len1, cap1, lo1, hi1, z1, p1, rfl, hz1, ha1, hl1, hab1, hq1, hq2, hR1, hb1⟩
  replace kA := kA.but hb1 (by omega)
  replace kB := kB.but hb1 (by omega)
  have zB1 := kB.lt
  have zs1 := hb1.size
  clear hR0
  obtain ⟨x, hx⟩ : ∃ x, St.ok ⟨on1, lo1, hi1, z1⟩ = x := ⟨_, rfl⟩
  have HX := Lib.hid hx
  clear hx
  go_wp2_with fail
  refine (absOk_su HX.out _ (hz1.out.alloc _) (by omega)).mono ?_
  rintro e w2 ⟨rfl, hb2⟩
  have kG : Blk w2 w1.heap.size 29 #[.bool on1, .slice a1 len1 cap1, .int .i64 lo1, .int .i64 hi1] := Blk.below (Blk.new_at rfl) hb2
  replace kA := (kA.alloc _).below hb2
  replace kB := (kB.alloc _).below hb2
  have HZ := Lib.hid ((hz1.out.alloc _).below hb2)
  have hR := (hR1.alloc _).below hb2
  have hU : But (w.heap.size + 1 + 1) w0 w2 := (hb1.alloc _).trans (but_of_below hb2)
  clear hb2 hR1 hb1 hz1
  obtain ⟨c0, c1, c2, c3⟩ := kG.four
  obtain ⟨r0, r1, r2, r3⟩ := kA.four
  obtain ⟨f0, f1, f2, f3⟩ := kA.free
  obtain ⟨s0, s1, s2, s3⟩ := kB.four
  obtain ⟨t0, t1, t2, t3⟩ := kB.free
  have zG := kG.lt
  have zA := kA.lt
  have zB := kB.lt
  cases x
  · have hk := True.intro
    have zU := hU.size
    go_wp2_with fail
    go_region_held3 (fun w' => w'.cell? ⟨w1.heap.size, 0, none⟩ = some (.bool on1) ∧ w'.cell? ⟨w1.heap.size, 1, none⟩ = some (.slice a1 len1 cap1) ∧ w'.cell? ⟨w1.heap.size, 2, none⟩ = some (.int .i64 lo1) ∧ w'.cell? ⟨w1.heap.size, 3, none⟩ = some (.int .i64 hi1)) (((try go_split_ands); (refine ⟨?_, ?_, ?_, ?_⟩); all_goals first | with_reducible assumption | ((with_reducible apply keep_drew); with_reducible assumption) | ((repeat (with_reducible refine keep_set _ (by (simp only []; omega)) ?_)); with_reducible assumption))) (((go_at_call 30; refine (l21State_s (w.heap.size + 1 + 1) p1 12 _ hR.drew (by omega) (by unfold I64; omega)).mono ?_); rintro e w5 ⟨on0, a0, len0, cap0, lo0, hi0, z0, p5, rfl, hz0, ha0, hl0, hab0, hq5, hq6, hR5, hb5⟩; (try simp only [World.size_drew] at hab0); clear c0 c1 c2 c3 r0 r1 r2 r3 f0 f1 f2 f3 s0 s1 s2 s3 t0 t1 t2 t3 zG zA zB; replace kG := kG.drew'.but hb5 (by omega); replace kA := kA.drew'.but hb5 (by omega); replace kB := kB.drew'.but hb5 (by omega); obtain ⟨c0, c1, c2, c3⟩ := kG.four; obtain ⟨r0, r1, r2, r3⟩ := kA.four; obtain ⟨f0, f1, f2, f3⟩ := kA.free; obtain ⟨s0, s1, s2, s3⟩ := kB.four; obtain ⟨t0, t1, t2, t3⟩ := kB.free; have zG := kG.lt; have zA := kA.lt; have zB := kB.lt; have hU5 := hU.drew.trans hb5; have HZ1 := Lib.hid (HZ.out.drew'.but hb5 (fun x hx => by have := hab1 x hx; omega)); clear hb5 hR5))
    have hz5 := hU5.size
    have hB5 : Below w.heap.size w w5 := hU5.to_below hS (by omega) hS.size
    clear hU5 hU hR kG kA kB
    go_wp2_with fail
    refine bodyPost_ret (by simp [results, Try.results50, go_sem, *]; try rfl) rfl ?_
    unfold DrawTwo
    exact ⟨on0, a0, len0, cap0, lo0, hi0, z0, on1, a1, len1, cap1, lo1, hi1, z1, rfl, Lib.hid ⟨rd_put8 hz0.out (B := w.heap.size + 1 + 1) (fun x hx => by have := hab0 x hx; omega) (by omega) (by omega) _ _ _ _ _ _ _ _, ha0, rd_put8 HZ1.out (B := w.heap.size + 1 + 1) (fun x hx => by have := hab1 x hx; omega) (by omega) (by omega) _ _ _ _ _ _ _ _, ha1⟩, hl0, hl1, (fun x hx => by have := hab0 x hx; omega), (fun x hx => by have := hab1 x hx; omega), below_put8 hB5 (by omega) (by omega) _ _ _ _ _ _ _ _⟩
  · go_wp2_with fail
    refine (pick_s (w.heap.size + 1 + 1) p1 2 _ hR (by omega) (by unfold I64; omega)).mono ?_
    rintro e w3 ⟨x, p3, rfl, hx, hq3, hq4, hR3, hb3⟩
    clear c0 c1 c2 c3 r0 r1 r2 r3 f0 f1 f2 f3 s0 s1 s2 s3 t0 t1 t2 t3 zG zA zB
    replace kG := kG.but hb3 (by omega)
    replace kA := kA.but hb3 (by omega)
    replace kB := kB.but hb3 (by omega)
    have HZ3 := Lib.hid (HZ.out.but hb3 (fun x hx => by have := hab1 x hx; omega))
    clear HZ hR
    have HZ := HZ3
    clear HZ3
    have hR := hR3
    replace hU := hU.trans hb3
    clear hb3 hR3
    obtain ⟨c0, c1, c2, c3⟩ := kG.four
    obtain ⟨r0, r1, r2, r3⟩ := kA.four
    obtain ⟨f0, f1, f2, f3⟩ := kA.free
    obtain ⟨s0, s1, s2, s3⟩ := kB.four
    obtain ⟨t0, t1, t2, t3⟩ := kB.free
    have zG := kG.lt
    have zA := kA.lt
    have zB := kB.lt
    rcases lt2 hx with rfl | rfl
    · clear hx
      have zU := hU.size
      go_wp2_with fail
      go_region_held3 (fun w' => w'.cell? ⟨w1.heap.size, 0, none⟩ = some (.bool on1) ∧ w'.cell? ⟨w1.heap.size, 1, none⟩ = some (.slice a1 len1 cap1) ∧ w'.cell? ⟨w1.heap.size, 2, none⟩ = some (.int .i64 lo1) ∧ w'.cell? ⟨w1.heap.size, 3, none⟩ = some (.int .i64 hi1)) (((try go_split_ands); (refine ⟨?_, ?_, ?_, ?_⟩); all_goals first | with_reducible assumption | ((with_reducible apply keep_drew); with_reducible assumption) | ((repeat (with_reducible refine keep_set _ (by (simp only []; omega)) ?_)); with_reducible assumption))) (((go_at_call 64; refine (l21Within_s (w.heap.size + 1 + 1) p3 on1 a1 len1 cap1 lo1 hi1 z1 _ hR.drew (by omega) HZ.out.drew' ha1 (fun x hx => by have := hab1 x hx; omega) HX.out).mono ?_); rintro e w5 ⟨on0, a0, len0, cap0, lo0, hi0, z0, p5, rfl, hz0, ha0, hl0, hab0, hq5, hq6, hR5, hb5⟩; (try simp only [World.size_drew] at hab0); clear c0 c1 c2 c3 r0 r1 r2 r3 f0 f1 f2 f3 s0 s1 s2 s3 t0 t1 t2 t3 zG zA zB; replace kG := kG.drew'.but hb5 (by omega); replace kA := kA.drew'.but hb5 (by omega); replace kB := kB.drew'.but hb5 (by omega); obtain ⟨c0, c1, c2, c3⟩ := kG.four; obtain ⟨r0, r1, r2, r3⟩ := kA.four; obtain ⟨f0, f1, f2, f3⟩ := kA.free; obtain ⟨s0, s1, s2, s3⟩ := kB.four; obtain ⟨t0, t1, t2, t3⟩ := kB.free; have zG := kG.lt; have zA := kA.lt; have zB := kB.lt; have hU5 := hU.drew.trans hb5; have HZ1 := Lib.hid (HZ.out.drew'.but hb5 (fun x hx => by have := hab1 x hx; omega)); clear hb5 hR5))
      have hz5 := hU5.size
      have hB5 : Below w.heap.size w w5 := hU5.to_below hS (by omega) hS.size
      clear hU5 hU hR kG kA kB
      go_wp2_with fail
      refine bodyPost_ret (by simp [results, Try.results50, go_sem, *]; try rfl) rfl ?_
      unfold DrawTwo
      exact ⟨on0, a0, len0, cap0, lo0, hi0, z0, on1, a1, len1, cap1, lo1, hi1, z1, rfl, Lib.hid ⟨rd_put8 hz0.out (B := w.heap.size + 1 + 1) (fun x hx => by have := hab0 x hx; omega) (by omega) (by omega) _ _ _ _ _ _ _ _, ha0, rd_put8 HZ1.out (B := w.heap.size + 1 + 1) (fun x hx => by have := hab1 x hx; omega) (by omega) (by omega) _ _ _ _ _ _ _ _, ha1⟩, hl0, hl1, (fun x hx => by have := hab0 x hx; omega), (fun x hx => by have := hab1 x hx; omega), below_put8 hB5 (by omega) (by omega) _ _ _ _ _ _ _ _⟩
    · clear hx
      have zU := hU.size
      go_wp2_with fail
      go_region_held3 (fun w' => w'.cell? ⟨w1.heap.size, 0, none⟩ = some (.bool on1) ∧ w'.cell? ⟨w1.heap.size, 1, none⟩ = some (.slice a1 len1 cap1) ∧ w'.cell? ⟨w1.heap.size, 2, none⟩ = some (.int .i64 lo1) ∧ w'.cell? ⟨w1.heap.size, 3, none⟩ = some (.int .i64 hi1)) (((try go_split_ands); (refine ⟨?_, ?_, ?_, ?_⟩); all_goals first | with_reducible assumption | ((with_reducible apply keep_drew); with_reducible assumption) | ((repeat (with_reducible refine keep_set _ (by (simp only []; omega)) ?_)); with_reducible assumption))) (((go_at_call 30; refine (l21State_s (w.heap.size + 1 + 1) p3 12 _ hR.drew (by omega) (by unfold I64; omega)).mono ?_); rintro e w5 ⟨on0, a0, len0, cap0, lo0, hi0, z0, p5, rfl, hz0, ha0, hl0, hab0, hq5, hq6, hR5, hb5⟩; (try simp only [World.size_drew] at hab0); clear c0 c1 c2 c3 r0 r1 r2 r3 f0 f1 f2 f3 s0 s1 s2 s3 t0 t1 t2 t3 zG zA zB; replace kG := kG.drew'.but hb5 (by omega); replace kA := kA.drew'.but hb5 (by omega); replace kB := kB.drew'.but hb5 (by omega); obtain ⟨c0, c1, c2, c3⟩ := kG.four; obtain ⟨r0, r1, r2, r3⟩ := kA.four; obtain ⟨f0, f1, f2, f3⟩ := kA.free; obtain ⟨s0, s1, s2, s3⟩ := kB.four; obtain ⟨t0, t1, t2, t3⟩ := kB.free; have zG := kG.lt; have zA := kA.lt; have zB := kB.lt; have hU5 := hU.drew.trans hb5; have HZ1 := Lib.hid (HZ.out.drew'.but hb5 (fun x hx => by have := hab1 x hx; omega)); clear hb5 hR5))
      have hz5 := hU5.size
      have hB5 : Below w.heap.size w w5 := hU5.to_below hS (by omega) hS.size
      clear hU5 hU hR kG kA kB
      go_wp2_with fail
      refine bodyPost_ret (by simp [results, Try.results50, go_sem, *]; try rfl) rfl ?_
      unfold DrawTwo
      exact ⟨on0, a0, len0, cap0, lo0, hi0, z0, on1, a1, len1, cap1, lo1, hi1, z1, rfl, Lib.hid ⟨rd_put8 hz0.out (B := w.heap.size + 1 + 1) (fun x hx => by have := hab0 x hx; omega) (by omega) (by omega) _ _ _ _ _ _ _ _, ha0, rd_put8 HZ1.out (B := w.heap.size + 1 + 1) (fun x hx => by have := hab1 x hx; omega) (by omega) (by omega) _ _ _ _ _ _ _ _, ha1⟩, hl0, hl1, (fun x hx => by have := hab0 x hx; omega), (fun x hx => by have := hab1 x hx; omega), below_put8 hB5 (by omega) (by omega) _ _ _ _ _ _ _ _⟩
set_option maxRecDepth 100000 in
set_option maxHeartbeats 8000000 in
theorem drawAbsJoin_s (a : Option Addr) (len cap : Nat) (z : List Int) (w : World) (hrow : IsRow .u8 w a len cap z) : Calls Try.prog 22 #[.slice a len cap] w (DrawTwo w) := by
  go_enter Try.func22, Try.ntmps22
  go_wp2_with fail
  refine (drawAbsIn_s _ _ _ _ _ (row_alloc (row_alloc hrow _) _)).mono ?_
  rintro e w0 ⟨on0, a0, len0, cap0, lo0, hi0, z0, on1, a1, len1, cap1, lo1, hi1, z1, rfl, hzz, hl0, hl1, hab0, hab1, hb0⟩
  have kA : Blk w0 w.heap.size 29 #[.bool false, .slice none 0 0, .int .i64 0, .int .i64 0] := Blk.below ((Blk.new_at rfl).alloc _) hb0
  have kB : Blk w0 (w.heap.size + 1) 29 #[.bool false, .slice none 0 0, .int .i64 0, .int .i64 0] := Blk.below (Blk.new_at (by simp only [World.size_alloc])) hb0
  have hS : Below w.heap.size w w0 := below_on (((Below.refl w.heap.size w).alloc (Nat.le_refl _) _).alloc (by simp only [World.size_alloc]; omega) _) hb0
  simp only [World.size_alloc] at hab0 hab1
  obtain ⟨r0, r1, r2, r3⟩ := kA.four
  obtain ⟨f0, f1, f2, f3⟩ := kA.free
  obtain ⟨s0, s1, s2, s3⟩ := kB.four
  obtain ⟨t0, t1, t2, t3⟩ := kB.free
  have zA := kA.lt
  have zB := kB.lt
  clear hb0 hrow kA kB
  go_wp2_with fail
  refine bodyPost_ret (by simp [results, Try.results22, go_sem, *]; try rfl) rfl ?_
  unfold DrawTwo
  obtain ⟨hz0, ha0, hz1, ha1⟩ := hzz.out
  exact ⟨on0, a0, len0, cap0, lo0, hi0, z0, on1, a1, len1, cap1, lo1, hi1, z1, rfl, Lib.hid ⟨rd_put8 hz0 (B := w.heap.size + 1 + 1) (fun x hx => by have := hab0 x hx; omega) (by omega) (by omega) _ _ _ _ _ _ _ _, ha0, rd_put8 hz1 (B := w.heap.size + 1 + 1) (fun x hx => by have := hab1 x hx; omega) (by omega) (by omega) _ _ _ _ _ _ _ _, ha1⟩, hl0, hl1, (fun x hx => by have := hab0 x hx; omega), (fun x hx => by have := hab1 x hx; omega), below_put8 hS (by omega) (by omega) _ _ _ _ _ _ _ _⟩
end Go.Proofs.Ytdpooiiacdfpkaa
