/-
  FnAbsOut: for every input the law returns true, and its arguments read as before. No conditions. (Printed by wip/genfnabsout.py.)
-/
import Derived.Test.YtdpooiiacdfpkaaFa
import Derived.Test.YtdpooiiacdfpkaaLaws
import Derived.Test.YtdpooiiacdfpkaaAbsOut2
import Derived.Test.YtdpooiiacdfpkaaDrawI3
import Derived.Deep.CutBlock
namespace Go.Proofs.Ytdpooiiacdfpkaa.fnAbsOut
set_option linter.unusedSimpArgs false
set_option linter.unusedVariables false
open Go.ChangeShapes Go.WideShapes Go.ChangeAt Go.RowKit
open Go.ChangeMaps (open_string shut_string)
open Go.Sort

theorem cset {W : World} {p a : Addr} {u : Value} (hn : a.block ≠ p.block) : (W.setCell p u).cell? a = W.cell? a := World.cell?_of_block (w := W) (Below.heap_setCell W p u a.block hn)
theorem keep_under {W W' : World} {a : Addr} {v : Value} {o o' : Obj} (h : (W.alloc o).cell? a = some v) (hl : a.block < W.heap.size) (hs : W'.heap.size = W.heap.size) (k : W'.cell? a = W.cell? a) : (W'.alloc o').cell? a = some v := by
  rw [World.cell?_alloc_lt _ _ _ hl] at h
  rw [World.cell?_alloc_lt _ _ _ (by omega), k, h]
theorem below_under {w W W' : World} {o o' : Obj} (h : Below w.heap.size w (W.alloc o)) (hl : w.heap.size ≤ W.heap.size) (k : Below w.heap.size W W') : Below w.heap.size w (W'.alloc o') := by
  have k0 : Below w.heap.size w W := ⟨h.os, h.tape, h.output, hl, fun i hi => by rw [← Below.heap_alloc W o i (by omega)]; exact h.block i hi⟩
  exact (k0.trans k).alloc (by have := k.size; omega) o'

theorem keep_realloc2 {W : World} {a : Addr} {v : Value} {o o' o2 : Obj} (h : ((W.alloc o).alloc o2).cell? a = some v) (hl : a.block < W.heap.size) : ((W.alloc o').alloc o2).cell? a = some v := by
  rw [World.cell?_alloc_lt _ _ _ (by rw [World.size_alloc]; omega), World.cell?_alloc_lt _ _ _ hl] at h ⊢; exact h
theorem below_realloc2 {w W : World} {o o' o2 : Obj} (h : Below w.heap.size w ((W.alloc o).alloc o2)) (hl : w.heap.size ≤ W.heap.size) : Below w.heap.size w ((W.alloc o').alloc o2) :=
  ⟨h.os, h.tape, h.output, by simp; omega, fun k hk => by
    rw [Below.heap_alloc _ _ _ (by rw [World.size_alloc]; omega), Below.heap_alloc _ _ _ (by omega), ← Below.heap_alloc W o _ (by omega), ← Below.heap_alloc (W.alloc o) o2 _ (by rw [World.size_alloc]; omega)]; exact h.block k hk⟩
theorem le_of_S2 {P Q : Prop} {n m k : Nat} (h : P ∧ Q ∧ n ≤ m) (h2 : m ≤ k) : n ≤ k := Nat.le_trans h.2.2 h2
theorem s2_mk {W0 w' : World} (h : Below W0.heap.size W0 w') : Below W0.heap.size W0 w' ∧ (∀ b o, b < W0.heap.size → w'.cell? ⟨b, o, none⟩ = W0.cell? ⟨b, o, none⟩) ∧ W0.heap.size ≤ w'.heap.size := ⟨h, fun b o hb => h.cell (p := ⟨b, o, none⟩) hb, h.size⟩
theorem out_sx {i0 i1 i2 i3 i4 i5 i6 i7 : Int} {on : Bool} {a : Option Addr} {len cap : Nat} {lo hi : Int} {z : List (Int × Int)} {ro : Bool} {rl rh : Int} (h : absOut i0 i2 on z (lo, hi) = (ro, rl, rh)) (w : World) (hz : RdI w a len z) (hl : len ≤ 1048576) : Calls Try.prog 10 #[.agg #[.int .i64 i0, .int .i64 i1, .int .i64 i2, .int .i64 i3, .int .i64 i4, .int .i64 i5, .int .i64 i6, .int .i64 i7], .agg #[.bool on, .slice a len cap, .int .i64 lo, .int .i64 hi]] w fun e w' => e = .returned (.agg #[.bool ro, .int .i64 rl, .int .i64 rh]) ∧ Below w.heap.size w w' := by
  have k := absOut_s i0 i1 i2 i3 i4 i5 i6 i7 on a len cap lo hi z w hz hl
  rw [h] at k
  exact k
theorem out_ix {i0 i1 i2 i3 i4 i5 i6 i7 : Int} {on : Bool} {a : Option Addr} {len cap : Nat} {lo hi : Int} {z : List (Int × Int)} {ro : Bool} {rl rh : Int} (h : absOut i0 i2 on z (lo, hi) = (ro, rl, rh)) (w : World) (hz : RdI w a len z) (hl : len ≤ 1048576) (ha : AtHead a len cap) : Calls Try.prog 9 #[.agg #[.int .i64 i0, .int .i64 i1, .int .i64 i2, .int .i64 i3, .int .i64 i4, .int .i64 i5, .int .i64 i6, .int .i64 i7], .agg #[.bool on, .slice a len cap, .int .i64 lo, .int .i64 hi]] w fun e w' => e = .returned (.agg #[.bool ro, .int .i64 rl, .int .i64 rh]) ∧ Below w.heap.size w w' := by
  have k := absOut_i i0 i1 i2 i3 i4 i5 i6 i7 on a len cap lo hi z w hz hl ha
  rw [h] at k
  exact k
theorem owOk_at (w : World) : Calls Try.prog 12 #[] w fun e w' => e = .returned (.bool true) ∧ Below w.heap.size w w' := (owOk_l w).mono fun e w' h => ⟨h.1, by rw [h.2]; exact Below.refl _ _⟩
theorem three {w : World} {g : Nat} {t : TypeId} {v0 v1 v2 : Value} (h : Blk w g t #[v0, v1, v2]) : w.cell? ⟨g, 0, none⟩ = some v0 ∧ w.cell? ⟨g, 1, none⟩ = some v1 ∧ w.cell? ⟨g, 2, none⟩ = some v2 := ⟨h.cell 0, h.cell 1, h.cell 2⟩
theorem rd_head {w : World} {g len k : Nat} {z : List (Int × Int)} (h : RdI w (some ⟨g, 0, none⟩) len z) (hk : k < len) : w.cell? ⟨g, k * 2, none⟩ = some (.int .i64 (z.getD k (0, 0)).1) ∧ w.cell? ⟨g, k * 2 + 1, none⟩ = some (.int .i64 (z.getD k (0, 0)).2) := by
  obtain ⟨hl, h | ⟨x, hx, h⟩⟩ := h
  · omega
  · cases hx
    have k1 := h k hk
    have e : (⟨g, 0, none⟩ : Addr).add (k * 2) = ⟨g, k * 2, none⟩ := by unfold Addr.add; split <;> simp_all
    rw [e] at k1
    exact k1
set_option maxRecDepth 100000 in
set_option maxHeartbeats 16000000 in
theorem walk (a0 : Option Addr) (len0 cap0 : Nat) (z0 : List Int) (w : World) (w0 : IsRow .u8 w a0 len0 cap0 z0) :
    Calls Try.prog 3 #[.slice a0 len0 cap0] w fun e w' => e = .returned (.bool true) ∧ Below w.heap.size w w' := by
  go_enter Try.func3, Try.ntmps3
  go_wp2_with fail
  all_goals (try (go_ret; exact ⟨rfl, by go_grown⟩))
  refine (drawAbsOut_s _ _ _ _ _ w0).mono ?_
  rintro e wA ⟨i0, i1, i2, i3, i4, i5, i6, i7, on, a, len, cap, lo, hi, z, rfl, hzz, hlS, hbA⟩
  obtain ⟨hzS, haS⟩ := hzz.out
  have hH := Lib.hid haS
  clear hzz haS w0
  go_upto_region 4 with fail
  have kI : Blk ((wA.alloc (.cells #[.int .i64 i0, .int .i64 i1, .int .i64 i2, .int .i64 i3, .int .i64 i4, .int .i64 i5, .int .i64 i6, .int .i64 i7] 24)).alloc (.cells #[.bool on, .slice a len cap, .int .i64 lo, .int .i64 hi] 29)) wA.heap.size 24 #[.int .i64 i0, .int .i64 i1, .int .i64 i2, .int .i64 i3, .int .i64 i4, .int .i64 i5, .int .i64 i6, .int .i64 i7] := (Blk.new _ _ _).alloc _
  have kS : StB ((wA.alloc (.cells #[.int .i64 i0, .int .i64 i1, .int .i64 i2, .int .i64 i3, .int .i64 i4, .int .i64 i5, .int .i64 i6, .int .i64 i7] 24)).alloc (.cells #[.bool on, .slice a len cap, .int .i64 lo, .int .i64 hi] 29)) (wA.heap.size + 1) on a len cap lo hi z := ⟨Blk.new_at (by simp only [World.size_alloc]), (hzS.alloc _).alloc _⟩
  have hS : Below w.heap.size w ((wA.alloc (.cells #[.int .i64 i0, .int .i64 i1, .int .i64 i2, .int .i64 i3, .int .i64 i4, .int .i64 i5, .int .i64 i6, .int .i64 i7] 24)).alloc (.cells #[.bool on, .slice a len cap, .int .i64 lo, .int .i64 hi] 29)) := (hbA.alloc hbA.size _).alloc (by simp only [World.size_alloc]; have := hbA.size; omega) _
  clear hzS hbA
  generalize ((wA.alloc (.cells #[.int .i64 i0, .int .i64 i1, .int .i64 i2, .int .i64 i3, .int .i64 i4, .int .i64 i5, .int .i64 i6, .int .i64 i7] 24)).alloc (.cells #[.bool on, .slice a len cap, .int .i64 lo, .int .i64 hi] 29)) = W1 at *
  have KI := Lib.hid kI
  have KS := Lib.hid kS
  clear kI kS
  obtain ⟨⟨ro, rl, rh⟩, hr⟩ : ∃ r, absOut i0 i2 on z (lo, hi) = r := ⟨_, rfl⟩
  have HR := Lib.hid hr
  clear hr
  obtain ⟨c0, c1, c2, c3, c4, c5, c6, c7⟩ := KI.out.eight; have qI := KI.out.lt; obtain ⟨d0, d1, d2, d3⟩ := KS.out.1.four; have qS := KS.out.1.lt
  go_upto_region 5 with (go_at_call 9; refine (out_ix HR.out _ KS.out.2 (by omega) hH.out).mono ?_; rintro e W2 ⟨rfl, hb⟩; clear c0 c1 c2 c3 c4 c5 c6 c7 qI d0 d1 d2 d3 qS; replace KI := Lib.hid ((KI.out).below hb); replace KS := Lib.hid ((KS.out).below hb); replace hS : Below w.heap.size w W2 := below_on (hS) hb; clear hb)
  have kX : Blk (W2.alloc (.cells #[.bool ro, .int .i64 rl, .int .i64 rh] 33)) W2.heap.size 33 #[.bool ro, .int .i64 rl, .int .i64 rh] := Blk.new _ _ _
  replace KI := Lib.hid (KI.out.alloc (.cells #[.bool ro, .int .i64 rl, .int .i64 rh] 33))
  replace KS := Lib.hid (KS.out.alloc (.cells #[.bool ro, .int .i64 rl, .int .i64 rh] 33))
  replace hS : Below w.heap.size w (W2.alloc (.cells #[.bool ro, .int .i64 rl, .int .i64 rh] 33)) := hS.alloc hS.size _
  generalize (W2.alloc (.cells #[.bool ro, .int .i64 rl, .int .i64 rh] 33)) = W0 at *
  have KX := Lib.hid kX
  clear kX
  obtain ⟨c0, c1, c2, c3, c4, c5, c6, c7⟩ := KI.out.eight; have qI := KI.out.lt; obtain ⟨d0, d1, d2, d3⟩ := KS.out.1.four; have qS := KS.out.1.lt; obtain ⟨x0, x1, x2⟩ := three KX.out; have qX := KX.out.lt
  go_cut [21] from 17 to 21 (fun s21 wx => ∃ W, W = wx ∧ s21 = .bool false ∧ Below W0.heap.size W0 wx)
  case first =>
    go_region_held3 (fun w' => Below W0.heap.size W0 w' ∧ (∀ b o, b < W0.heap.size → w'.cell? ⟨b, o, none⟩ = W0.cell? ⟨b, o, none⟩) ∧ W0.heap.size ≤ w'.heap.size) (((try go_split_ands); (refine s2_mk ?_); first | with_reducible assumption | (with_reducible exact below_on (by assumption) hb) | ((with_reducible refine below_alloc _ ?_); with_reducible assumption) | ((with_reducible refine below_realloc (by assumption) ?_); first | omega | (simp only [World.size_alloc]; omega) | (simp only [World.size_setCell]; omega)) | ((with_reducible refine below_realloc2 (by assumption) ?_); omega) | ((with_reducible refine below_under (by assumption) (by omega) ?_); first | exact (Below.refl _ _).setCell (by simp only []; omega) _ | exact ((Below.refl _ _).setCell (by simp only []; omega) _).setCell (by simp only []; omega) _) | ((repeat (with_reducible refine below_set _ (by (simp only []; omega)) ?_)); with_reducible assumption) | exact (Below.refl _ _).drew | go_grown)) ((go_at_call 10; refine (out_sx HR.out _ (KS.out.2.below (by ((try go_split_ands); first | with_reducible assumption | exact Below.refl _ _ | exact (Below.refl _ _).drew | go_grown))) (by omega)).mono ?_; rintro e w' ⟨rfl, hb⟩; have hs0 := hb.size; have hc := bcell hb; (try simp only [World.size_alloc, World.size_setCell, World.size_drew] at hs0); (first | have m0 := up_7 m0 (show _ ≤ w'.heap.size by omega) | have m0 := up_6 m0 (show _ ≤ w'.heap.size by omega) | have m0 := up_5 m0 (show _ ≤ w'.heap.size by omega) | have m0 := up_4 m0 (show _ ≤ w'.heap.size by omega) | have m0 := up_3 m0 (show _ ≤ w'.heap.size by omega) | have m0 := up_2 m0 (show _ ≤ w'.heap.size by omega) | have m0 := up_1 m0 (show _ ≤ w'.heap.size by omega) | skip); (first | have m1 := up_7 m1 (show _ ≤ w'.heap.size by omega) | have m1 := up_6 m1 (show _ ≤ w'.heap.size by omega) | have m1 := up_5 m1 (show _ ≤ w'.heap.size by omega) | have m1 := up_4 m1 (show _ ≤ w'.heap.size by omega) | have m1 := up_3 m1 (show _ ≤ w'.heap.size by omega) | have m1 := up_2 m1 (show _ ≤ w'.heap.size by omega) | have m1 := up_1 m1 (show _ ≤ w'.heap.size by omega) | skip); (first | have m2 := up_7 m2 (show _ ≤ w'.heap.size by omega) | have m2 := up_6 m2 (show _ ≤ w'.heap.size by omega) | have m2 := up_5 m2 (show _ ≤ w'.heap.size by omega) | have m2 := up_4 m2 (show _ ≤ w'.heap.size by omega) | have m2 := up_3 m2 (show _ ≤ w'.heap.size by omega) | have m2 := up_2 m2 (show _ ≤ w'.heap.size by omega) | have m2 := up_1 m2 (show _ ≤ w'.heap.size by omega) | skip); (first | have m3 := up_7 m3 (show _ ≤ w'.heap.size by omega) | have m3 := up_6 m3 (show _ ≤ w'.heap.size by omega) | have m3 := up_5 m3 (show _ ≤ w'.heap.size by omega) | have m3 := up_4 m3 (show _ ≤ w'.heap.size by omega) | have m3 := up_3 m3 (show _ ≤ w'.heap.size by omega) | have m3 := up_2 m3 (show _ ≤ w'.heap.size by omega) | have m3 := up_1 m3 (show _ ≤ w'.heap.size by omega) | skip); (first | have m4 := up_7 m4 (show _ ≤ w'.heap.size by omega) | have m4 := up_6 m4 (show _ ≤ w'.heap.size by omega) | have m4 := up_5 m4 (show _ ≤ w'.heap.size by omega) | have m4 := up_4 m4 (show _ ≤ w'.heap.size by omega) | have m4 := up_3 m4 (show _ ≤ w'.heap.size by omega) | have m4 := up_2 m4 (show _ ≤ w'.heap.size by omega) | have m4 := up_1 m4 (show _ ≤ w'.heap.size by omega) | skip); (first | have m5 := up_7 m5 (show _ ≤ w'.heap.size by omega) | have m5 := up_6 m5 (show _ ≤ w'.heap.size by omega) | have m5 := up_5 m5 (show _ ≤ w'.heap.size by omega) | have m5 := up_4 m5 (show _ ≤ w'.heap.size by omega) | have m5 := up_3 m5 (show _ ≤ w'.heap.size by omega) | have m5 := up_2 m5 (show _ ≤ w'.heap.size by omega) | have m5 := up_1 m5 (show _ ≤ w'.heap.size by omega) | skip); (first | (have mm := lt_7 hs0; (try have m5 := m4); (try have m4 := m3); (try have m3 := m2); (try have m2 := m1); (try have m1 := m0); have m0 := mm) | (have mm := lt_6 hs0; (try have m5 := m4); (try have m4 := m3); (try have m3 := m2); (try have m2 := m1); (try have m1 := m0); have m0 := mm) | (have mm := lt_5 hs0; (try have m5 := m4); (try have m4 := m3); (try have m3 := m2); (try have m2 := m1); (try have m1 := m0); have m0 := mm) | (have mm := lt_4 hs0; (try have m5 := m4); (try have m4 := m3); (try have m3 := m2); (try have m2 := m1); (try have m1 := m0); have m0 := mm) | (have mm := lt_3 hs0; (try have m5 := m4); (try have m4 := m3); (try have m3 := m2); (try have m2 := m1); (try have m1 := m0); have m0 := mm) | (have mm := lt_2 hs0; (try have m5 := m4); (try have m4 := m3); (try have m3 := m2); (try have m2 := m1); (try have m1 := m0); have m0 := mm) | (have mm := lt_1 hs0; (try have m5 := m4); (try have m4 := m3); (try have m3 := m2); (try have m2 := m1); (try have m1 := m0); have m0 := mm) | skip); (try have hg : g < w'.heap.size := (by omega)); (try have hg2 : g2 < w'.heap.size := (by omega)); (try have hl0 : w.heap.size < w'.heap.size := (by omega)); (try have hl1 : w.heap.size + 1 < w'.heap.size := (by omega)); (try have hl2 : w.heap.size + 1 + 1 < w'.heap.size := (by omega)); (try have hzW : W0.heap.size ≤ w'.heap.size := le_of_S2 (by assumption) hb.size); clear hs0))
    all_goals (go_wp2_with fail; go_meet; refine ⟨_, rfl, ?_, ?_⟩; (try go_split_ands); ((repeat' apply And.intro); all_goals first | trivial | (with_reducible assumption) | (simp [go_sem, *]; done) | (go_simp; done) | go_grown))
  case rest =>
    obtain ⟨W3, rfl, rfl, hb⟩ := hcut
    clear c0 c1 c2 c3 c4 c5 c6 c7 qI d0 d1 d2 d3 qS x0 x1 x2 qX
    replace KI := Lib.hid ((KI.out).below hb); replace KS := Lib.hid ((KS.out).below hb); replace KX := Lib.hid ((KX.out).below hb); replace hS : Below w.heap.size w W3 := below_on (hS) hb
    clear hb
    obtain ⟨c0, c1, c2, c3, c4, c5, c6, c7⟩ := KI.out.eight; have qI := KI.out.lt; obtain ⟨d0, d1, d2, d3⟩ := KS.out.1.four; have qS := KS.out.1.lt; obtain ⟨x0, x1, x2⟩ := three KX.out; have qX := KX.out.lt
    by_cases h12 : i0 = 12
    · subst h12
      obtain ⟨xS, hxS⟩ : ∃ x, St.ok ⟨on, lo, hi, z⟩ = x := ⟨_, rfl⟩
      have XS := Lib.hid hxS
      cases xS
      · have hno : absOk on z (lo, hi) = false := hxS
        clear hxS
        have e : absOut 12 i2 on z (lo, hi) = (false, 0, 0) := if_neg (fun h => by rw [hno] at h; exact absurd h.2.2.1 (by simp))
        rw [HR.out] at e
        simp only [Prod.mk.injEq] at e
        obtain ⟨rfl, rfl, rfl⟩ := e
        clear HR
        go_wp2_with (first | (go_at_call 11; refine (absOk_su XS.out _ KS.out.2 (by omega)).mono ?_; rintro e W4 ⟨rfl, hb⟩; clear c0 c1 c2 c3 c4 c5 c6 c7 qI d0 d1 d2 d3 qS x0 x1 x2 qX; replace KI := Lib.hid ((KI.out).below hb); replace KS := Lib.hid ((KS.out).below hb); replace KX := Lib.hid ((KX.out).below hb); replace hS : Below w.heap.size w W4 := below_on (hS) hb; clear hb; obtain ⟨c0, c1, c2, c3, c4, c5, c6, c7⟩ := KI.out.eight; have qI := KI.out.lt; obtain ⟨d0, d1, d2, d3⟩ := KS.out.1.four; have qS := KS.out.1.lt; obtain ⟨x0, x1, x2⟩ := three KX.out; have qX := KX.out.lt) | (go_at_call 12; refine (owOk_at _).mono ?_; rintro e W5 ⟨rfl, hb⟩; replace hS : Below w.heap.size w W5 := below_on hS hb; clear hb))
        go_ret
        exact ⟨rfl, hS⟩
      · have hyes : absOk on z (lo, hi) = true := hxS
        clear hxS
        cases on
        · have e : absOut 12 i2 false z (lo, hi) = (false, 0, 0) := if_neg (fun h => absurd h.2.2.2 (by simp))
          rw [HR.out] at e
          simp only [Prod.mk.injEq] at e
          obtain ⟨rfl, rfl, rfl⟩ := e
          clear HR
          go_wp2_with (first | (go_at_call 11; refine (absOk_su XS.out _ KS.out.2 (by omega)).mono ?_; rintro e W4 ⟨rfl, hb⟩; clear c0 c1 c2 c3 c4 c5 c6 c7 qI d0 d1 d2 d3 qS x0 x1 x2 qX; replace KI := Lib.hid ((KI.out).below hb); replace KS := Lib.hid ((KS.out).below hb); replace KX := Lib.hid ((KX.out).below hb); replace hS : Below w.heap.size w W4 := below_on (hS) hb; clear hb; obtain ⟨c0, c1, c2, c3, c4, c5, c6, c7⟩ := KI.out.eight; have qI := KI.out.lt; obtain ⟨d0, d1, d2, d3⟩ := KS.out.1.four; have qS := KS.out.1.lt; obtain ⟨x0, x1, x2⟩ := three KX.out; have qX := KX.out.lt) | (go_at_call 12; refine (owOk_at _).mono ?_; rintro e W5 ⟨rfl, hb⟩; replace hS : Below w.heap.size w W5 := below_on hS hb; clear hb))
          go_ret
          exact ⟨rfl, hS⟩
        · by_cases hlt : i2 < 0
          · have e : absOut 12 i2 true z (lo, hi) = (false, 0, 0) := if_neg (fun h => by have := h.2.1; simp at this; omega)
            rw [HR.out] at e
            simp only [Prod.mk.injEq] at e
            obtain ⟨rfl, rfl, rfl⟩ := e
            clear HR
            go_wp2_with (first | (go_at_call 11; refine (absOk_su XS.out _ KS.out.2 (by omega)).mono ?_; rintro e W4 ⟨rfl, hb⟩; clear c0 c1 c2 c3 c4 c5 c6 c7 qI d0 d1 d2 d3 qS x0 x1 x2 qX; replace KI := Lib.hid ((KI.out).below hb); replace KS := Lib.hid ((KS.out).below hb); replace KX := Lib.hid ((KX.out).below hb); replace hS : Below w.heap.size w W4 := below_on (hS) hb; clear hb; obtain ⟨c0, c1, c2, c3, c4, c5, c6, c7⟩ := KI.out.eight; have qI := KI.out.lt; obtain ⟨d0, d1, d2, d3⟩ := KS.out.1.four; have qS := KS.out.1.lt; obtain ⟨x0, x1, x2⟩ := three KX.out; have qX := KX.out.lt) | (go_at_call 12; refine (owOk_at _).mono ?_; rintro e W5 ⟨rfl, hb⟩; replace hS : Below w.heap.size w W5 := below_on hS hb; clear hb))
            go_ret
            exact ⟨rfl, hS⟩
          · by_cases hge : 4 ≤ i2
            · have e : absOut 12 i2 true z (lo, hi) = (false, 0, 0) := if_neg (fun h => by have := h.2.1; simp at this; omega)
              rw [HR.out] at e
              simp only [Prod.mk.injEq] at e
              obtain ⟨rfl, rfl, rfl⟩ := e
              clear HR
              go_wp2_with (first | (go_at_call 11; refine (absOk_su XS.out _ KS.out.2 (by omega)).mono ?_; rintro e W4 ⟨rfl, hb⟩; clear c0 c1 c2 c3 c4 c5 c6 c7 qI d0 d1 d2 d3 qS x0 x1 x2 qX; replace KI := Lib.hid ((KI.out).below hb); replace KS := Lib.hid ((KS.out).below hb); replace KX := Lib.hid ((KX.out).below hb); replace hS : Below w.heap.size w W4 := below_on (hS) hb; clear hb; obtain ⟨c0, c1, c2, c3, c4, c5, c6, c7⟩ := KI.out.eight; have qI := KI.out.lt; obtain ⟨d0, d1, d2, d3⟩ := KS.out.1.four; have qS := KS.out.1.lt; obtain ⟨x0, x1, x2⟩ := three KX.out; have qX := KX.out.lt) | (go_at_call 12; refine (owOk_at _).mono ?_; rintro e W5 ⟨rfl, hb⟩; replace hS : Below w.heap.size w W5 := below_on hS hb; clear hb))
              go_ret
              exact ⟨rfl, hS⟩
            · have h4 : len = 4 := by have := (ok_parts hyes).1; have h5 := KS.out.2.1; omega
              subst h4
              obtain ⟨ga, rfl⟩ : ∃ g, a = some ⟨g, 0, none⟩ := hH.out.2.resolve_left (by omega)
              obtain ⟨k, rfl⟩ := Int.eq_ofNat_of_zero_le (Int.not_lt.1 hlt)
              have hk : k < 4 := by omega
              have j0 : (0 : Int) ≤ (k : Int) := by omega
              have j1 : (k : Int) < 4 := by omega
              obtain ⟨⟨zl, zh⟩, hq⟩ : ∃ q, q = z.getD k (0, 0) := ⟨_, rfl⟩
              have e : absOut 12 (k : Int) true z (lo, hi) = (true, z.getD ((k : Int)).toNat (0, 0)) := if_pos ⟨rfl, by simp; omega, hyes, rfl⟩
              rw [HR.out, Int.toNat_natCast, ← hq] at e
              simp only [Prod.mk.injEq] at e
              obtain ⟨rfl, rfl, rfl⟩ := e
              have HQ := Lib.hid hq.symm
              clear HR hq hyes hH
              go_upto_region 9 with (go_at_call 11; refine (absOk_su XS.out _ KS.out.2 (by omega)).mono ?_; rintro e W4 ⟨rfl, hb⟩; clear c0 c1 c2 c3 c4 c5 c6 c7 qI d0 d1 d2 d3 qS x0 x1 x2 qX; replace KI := Lib.hid ((KI.out).below hb); replace KS := Lib.hid ((KS.out).below hb); replace KX := Lib.hid ((KX.out).below hb); replace hS : Below w.heap.size w W4 := below_on (hS) hb; clear hb; obtain ⟨c0, c1, c2, c3, c4, c5, c6, c7⟩ := KI.out.eight; have qI := KI.out.lt; obtain ⟨d0, d1, d2, d3⟩ := KS.out.1.four; have qS := KS.out.1.lt; obtain ⟨x0, x1, x2⟩ := three KX.out; have qX := KX.out.lt)
              obtain ⟨y0, y1⟩ := rd_head KS.out.2 hk
              rw [HQ.out] at y0 y1
              simp only at y0 y1
              go_region_held3 (fun w' => w'.cell? ⟨W2.heap.size, 0, none⟩ = some (.bool true) ∧ w'.cell? ⟨W2.heap.size, 1, none⟩ = some (.int .i64 rl) ∧ w'.cell? ⟨W2.heap.size, 2, none⟩ = some (.int .i64 rh) ∧ w'.cell? ⟨wA.heap.size + 1, 1, none⟩ = some (.slice (some ⟨ga, 0, none⟩) 4 cap) ∧ w'.cell? ⟨wA.heap.size, 2, none⟩ = some (.int .i64 (k : Int)) ∧ w'.cell? ⟨ga, k * 2, none⟩ = some (.int .i64 rl) ∧ w'.cell? ⟨ga, k * 2 + 1, none⟩ = some (.int .i64 rh)) (((try go_split_ands); (refine ⟨?_, ?_, ?_, ?_, ?_, ?_, ?_⟩); all_goals first | with_reducible assumption | ((with_reducible apply keep_drew); with_reducible assumption))) (fail)
              go_wp2_with fail
              go_ret
              exact ⟨rfl, hS.drew⟩
    · have q0 : (i0 == 12) = false := by simp [h12]
      have q1 : (i0 != 12) = true := by simp [h12]
      have e : absOut i0 i2 on z (lo, hi) = (false, 0, 0) := if_neg (fun h => h12 h.1)
      rw [HR.out] at e
      simp only [Prod.mk.injEq] at e
      obtain ⟨rfl, rfl, rfl⟩ := e
      clear HR
      go_wp2_with (go_at_call 12; refine (owOk_at _).mono ?_; rintro e W5 ⟨rfl, hb⟩; replace hS : Below w.heap.size w W5 := below_on hS hb; clear hb)
      go_ret
      exact ⟨rfl, hS⟩
/-! ### The row, off the walk -/
set_option maxRecDepth 100000 in
theorem lifted (os : Os) (started : os.Started) (H : Type) (enc : TypeId × Value → H) :
    ReturnsInHanded {} Try.checked os 3 .any (Rows.fnAbsOutSpec.pre6 enc Try.prog Try.f3 Rows.fnAbsOutRow.domain false) (Rows.fnAbsOutSpec.post enc Try.prog Try.f3 false true false false) := by
  refine returnsInHanded_of_change (C := Try.checked) own started (by kernel_rfl) Try.func3
    (ChangeSpec.witness6 (enc := enc) (C := Try.checked) false ⟨#[], #[.slice none 0 0], []⟩ 8 (by kernel_rfl) (by kernel_rfl) (by kernel_rfl) (by kernel_rfl)) ?_
  intro W base args ds gs before hval0 hW hcnd _
  have hval : ∀ (j : Nat) t v, Try.f3.params[j]? = some t → args[j]? = some v → Value.okWide Try.prog W .any base t v := hval0
  have hW' := hW
  obtain ⟨p, q, hA0, hV, rfl, hfz, hnd⟩ := hW
  have hA : DataW.TrodAll enc Try.prog W 0 (fun _ => true) true Try.f3.params.toList args.toList ds p := hA0
  rw [Try.params3] at hA hval
  obtain ⟨v0, vs0, d0, ds0, p0, q0, hargs, rfl, rfl, h0, r0⟩ := trodAll_cons hA
  obtain ⟨rfl, rfl, rfl⟩ := trodAll_nil r0
  obtain rfl : args = #[v0] := by cases args; simp_all
  obtain ⟨rfl, rfl⟩ := trodVars_none hV
  have k0 := h0
  have lt0 : ∀ x ∈ p0, x.block < W.heap.size := by obtain ⟨m, hm⟩ := k0; exact DataW.trod_lt m _ _ _ hm
  obtain ⟨a0, len0, cap0, rfl⟩ := okWide_slice Try.underlying22 (hval 0 22 v0 rfl rfl)
  obtain ⟨z0, w0⟩ : ∃ zs, IsRow .u8 W a0 len0 cap0 zs := by
    obtain ⟨fuel, hf⟩ := h0
    rcases open_ints Try.underlying22 Try.underlying5 (by kernel_rfl) hf with ⟨hcs, _⟩ | ⟨x, l, c, zs, hcs, _, hl, hm, hz, _, hcell, hwz⟩
    · simp [Value.cells] at hcs
      obtain ⟨rfl, rfl, rfl⟩ := hcs
      exact ⟨[], .inl ⟨rfl, rfl, rfl, rfl⟩⟩
    · simp [Value.cells] at hcs
      obtain ⟨rfl, rfl, rfl⟩ := hcs
      exact ⟨zs, .inr ⟨_, rfl, hl, hm, by simpa using hz, hcell, hwz⟩⟩
  clear hA0 hval0
  refine (walk a0 len0 cap0 z0 W w0).mono fun e W' ⟨he, bel⟩ => ?_
  subst he
  exact ⟨_, rfl, _, _, _, [], _, [], hW', trodAll_mk1 (shut_bool Try.underlying4 _), (trodAll_cons_mk (Below.trod laidOut (by kernel_rfl) (of_decide_eq_true (by kernel_rfl)) k0 bel lt0) trodAll_mk0), rfl, bel.frame _, fun h => by cases h⟩

theorem over : Rows.fnAbsOutRow.holds Try.pinned (OpenSpec.ofChange Rows.fnAbsOutSpec) :=
  OpenClaim.holds_of_wide 3 Try.f3 rfl rfl rfl rfl rfl rfl rfl ⟨rfl, rfl, rfl, rfl, rfl⟩ rfl rfl rfl rfl rfl (by kernel_rfl) Try.func3 (by kernel_rfl)
    (of_decide_eq_true (by kernel_rfl)) (by unfold Func.isWrapper; rw [if_neg (of_decide_eq_false (by kernel_rfl))]; exact ⟨rfl, rfl⟩)
    (fun os started H enc _ => lifted os started H enc)

/-- The given statement. -/
theorem proved : Rows.FnAbsOutSaid := over
#print axioms proved
end Go.Proofs.Ytdpooiiacdfpkaa.fnAbsOut
