/-
  AbsWide: the program's, by contract. No conditions but those that each theorem says. (Printed by wip/genak2.py.)
-/
import Derived.Test.YtdpooiiacdfpkaaAk
import Derived.Test.YtdpooiiacdfpkaaAjW
namespace Go.Proofs.Ytdpooiiacdfpkaa
set_option linter.unusedSimpArgs false
set_option linter.unusedVariables false
open Go.ChangeShapes Go.WideShapes Go.ChangeAt Go.RowKit Go.Sort

theorem wide_ix {al ah bl bh jl jh : Int} (h : wideI (al, ah) (bl, bh) = (jl, jh)) (w : World) : Calls Try.prog 49 #[.agg #[.int .i64 al, .int .i64 ah], .agg #[.int .i64 bl, .int .i64 bh]] w fun e w' => e = .returned (.agg #[.int .i64 jl, .int .i64 jh]) ∧ Below w.heap.size w w' := by
  have k := itvWide_i al ah bl bh w
  rw [h] at k
  exact k
def MixWide (w : World) (z0 z1 : List (Int × Int)) (jl jh : Int) (e : Ending) (w' : World) : Prop := ∃ g, e = .returned (.pointer (some ⟨g, 0, none⟩)) ∧ StAt w' g (eachWide z0 z1) jl jh ∧ Below w.heap.size w w'
/-- The state that is mixed: its first k variables are written. -/
def OutWide (w : World) (g k : Nat) (z : List (Int × Int)) (jl jh : Int) : Prop := ∃ cs, Blk w g 62 cs ∧ cs.size = 10 ∧ (∀ i, i < k → cs[i * 2]? = some (.int .i64 (z.getD i (0, 0)).1) ∧ cs[i * 2 + 1]? = some (.int .i64 (z.getD i (0, 0)).2)) ∧ cs[8]? = some (.int .i64 jl) ∧ cs[9]? = some (.int .i64 jh)
theorem OutWide.at {w : World} {g : Nat} {z : List (Int × Int)} {jl jh : Int} (h : OutWide w g 4 z jl jh) : StAt w g z jl jh := by
  obtain ⟨cs, hb, _, hi, h8, h9⟩ := h
  exact ⟨fun i h => ⟨(hb.cell _).trans (hi i h).1, (hb.cell _).trans (hi i h).2⟩, (hb.cell _).trans h8, (hb.cell _).trans h9⟩
theorem OutWide.step {w : World} {g k : Nat} {z : List (Int × Int)} {jl jh x y : Int} (h : OutWide w g k z jl jh) (hk : k < 4) (hz : z.getD k (0, 0) = (x, y)) : OutWide ((w.setCell ⟨g, k * 2, none⟩ (.int .i64 x)).setCell ⟨g, k * 2 + 1, none⟩ (.int .i64 y)) g (k + 1) z jl jh := by
  obtain ⟨cs, hb, hs, hi, h8, h9⟩ := h
  refine ⟨_, (hb.set_ (k * 2) _).set_ (k * 2 + 1) _, by simpa using hs, fun i h => ?_, ?_, ?_⟩
  · by_cases e : i = k
    · subst e
      rw [hz]
      constructor
      · rw [Array.getElem?_setIfInBounds_ne (by omega), Array.getElem?_setIfInBounds_self_of_lt (by omega)]
      · rw [Array.getElem?_setIfInBounds_self_of_lt (by simp; omega)]
    · obtain ⟨h1, h2⟩ := hi i (by omega)
      constructor
      · rw [Array.getElem?_setIfInBounds_ne (by omega), Array.getElem?_setIfInBounds_ne (by omega)]; exact h1
      · rw [Array.getElem?_setIfInBounds_ne (by omega), Array.getElem?_setIfInBounds_ne (by omega)]; exact h2
  · rw [Array.getElem?_setIfInBounds_ne (by omega), Array.getElem?_setIfInBounds_ne (by omega)]; exact h8
  · rw [Array.getElem?_setIfInBounds_ne (by omega), Array.getElem?_setIfInBounds_ne (by omega)]; exact h9
set_option maxRecDepth 100000 in
set_option maxHeartbeats 8000000 in
theorem mixWide (bx g0 g1 : Nat) (z0 z1 : List (Int × Int)) (lo0 hi0 lo1 hi1 jl jh : Int) (hj : wideI (lo0, hi0) (lo1, hi1) = (jl, jh)) (w : World) (hf : w.cell? ⟨bx, 0, none⟩ = some (.func (.func 49) #[] #[])) (hs0 : StAt w g0 z0 lo0 hi0) (hs1 : StAt w g1 z1 lo1 hi1) : Calls Try.prog 70 #[.pointer (some ⟨g0, 0, none⟩), .pointer (some ⟨g1, 0, none⟩), .pointer (some ⟨bx, 0, none⟩)] w (MixWide w z0 z1 jl jh) := by
  obtain ⟨hv0, h08, h09⟩ := hs0
  obtain ⟨hv1, h18, h19⟩ := hs1
  have HV0 := Lib.hid hv0
  have HV1 := Lib.hid hv1
  have HJ := Lib.hid hj
  have HF := Lib.hid hf
  clear hv0 hv1 hj
  go_enter Try.func70, Try.ntmps70
  go_upto_region 1 with fail
  go_cut [6] (fun p wx => ∃ W, W = wx ∧ ∃ g, p = .pointer (some ⟨g, 0, none⟩) ∧ w.heap.size ≤ g ∧ OutWide wx g 0 (eachWide z0 z1) jl jh ∧ Below w.heap.size w wx)
  case first =>
    go_region_held3 (fun w' => w'.cell? ⟨bx, 0, none⟩ = some (.func (.func 49) #[] #[]) ∧ w'.cell? ⟨g0, 8, none⟩ = some (.int .i64 lo0) ∧ w'.cell? ⟨g0, 9, none⟩ = some (.int .i64 hi0) ∧ w'.cell? ⟨g1, 8, none⟩ = some (.int .i64 lo1) ∧ w'.cell? ⟨g1, 9, none⟩ = some (.int .i64 hi1)) (((try go_split_ands); (repeat' apply And.intro); all_goals (first | with_reducible assumption | ((with_reducible refine keep_alloc _ ?_); with_reducible assumption) | ((with_reducible refine below_alloc _ ?_); with_reducible assumption) | ((with_reducible refine keep_realloc (by assumption) ?_); (simp only []; omega)) | ((with_reducible refine below_realloc (by assumption) ?_); omega) | ((with_reducible refine keep_realloc (by assumption) ?_); (simp only [World.size_alloc]; omega)) | ((with_reducible refine below_realloc (by assumption) ?_); (simp only [World.size_alloc]; omega)) | ((with_reducible refine keep_realloc2 (by assumption) ?_); (simp only []; omega)) | ((with_reducible refine keep_realloc (by assumption) ?_); (simp only [World.size_setCell]; omega)) | ((with_reducible refine below_realloc (by assumption) ?_); (simp only [World.size_setCell]; omega)) | ((with_reducible refine keep_under (by assumption) (by simp only []; omega) (by simp [World.setCell]) ?_); first | exact cset (by simp only []; omega) | exact (cset (by simp only []; omega)).trans (cset (by simp only []; omega))) | ((with_reducible refine below_under (by assumption) (by omega) ?_); first | exact (Below.refl _ _).setCell (by simp only []; omega) _ | exact ((Below.refl _ _).setCell (by simp only []; omega) _).setCell (by simp only []; omega) _) | ((with_reducible refine below_realloc2 (by assumption) ?_); omega) | (with_reducible exact cell_later hb (by assumption)) | (with_reducible exact below_on (by assumption) hb) | ((repeat (with_reducible refine keep_set _ (by (simp only []; omega)) ?_)); with_reducible assumption) | ((repeat (with_reducible refine below_set _ (by (simp only []; omega)) ?_)); with_reducible assumption) | (simp; done) | (simp [go_sem]; done) | (simp [go_sem, *]; done) | go_grown))) (first
      | (go_at_call 49; refine (wide_ix HJ.out _).mono ?_; rintro e w1 ⟨rfl, hb⟩; have hS : Below w.heap.size w w1 := below_on (Below.refl _ _).drew hb))
    all_goals (go_wp2_with fail; go_meet; exact ⟨_, rfl, _, rfl, hS.size, ⟨_, Blk.new _ _ _, rfl, fun i h => by omega, rfl, rfl⟩, hS.alloc hS.size _⟩)
  case rest =>
  obtain ⟨W, rfl, g, rfl, hg, hO, hS⟩ := hcut
  have HO := Lib.hid hO
  clear h08 h09 h18 h19 hf hO
  go_wp2_with fail
  go_loopw [7, 20] (fun i j wr => ∃ k : Nat, k ≤ 4 ∧ j = .int .i64 k ∧ Hid (OutWide wr g k (eachWide z0 z1) jl jh) ∧ Below w.heap.size w wr) (fun _ j _ => 4 - (intOf j).toNat)
  case atStart => exact ⟨0, by omega, rfl, HO, hS⟩
  case round =>
    clear HO hS
    obtain ⟨k, hk, rfl, hO, hS⟩ := hrel
    by_cases hlt : k < 4
    · have hlk : (k : Int) < 4 := by omega
      have hk0 : (0 : Int) ≤ (k : Int) := by omega
      obtain ⟨q0, q1⟩ := HV0.out k hlt
      obtain ⟨q2, q3⟩ := HV1.out k hlt
      have hsn := eachWide_get z0 z1 hlt
      obtain ⟨⟨l0, u0⟩, e0⟩ : ∃ q, q = z0.getD k (0, 0) := ⟨_, rfl⟩
      obtain ⟨⟨l1, u1⟩, e1⟩ : ∃ q, q = z1.getD k (0, 0) := ⟨_, rfl⟩
      rw [← e0] at q0 q1 hsn
      rw [← e1] at q2 q3 hsn
      obtain ⟨⟨vl, vh⟩, e2⟩ : ∃ q, q = wideI (l0, u0) (l1, u1) := ⟨_, rfl⟩
      rw [← e2] at hsn
      have HV := Lib.hid e2.symm
      have HN := Lib.hid hsn
      simp only at q0 q1 q2 q3
      have q4 := (hS.cell (blk HF.out)).trans HF.out
      replace q0 := (hS.cell (blk q0)).trans q0
      replace q1 := (hS.cell (blk q1)).trans q1
      replace q2 := (hS.cell (blk q2)).trans q2
      replace q3 := (hS.cell (blk q3)).trans q3
      clear e0 e1 e2 hsn
      have n0 : g0 ≠ g ∧ g1 ≠ g ∧ bx ≠ g := ⟨fun e => by have : g0 < w.heap.size := blk (HV0.out k hlt).1; omega, fun e => by have : g1 < w.heap.size := blk (HV1.out k hlt).1; omega, fun e => by have : bx < w.heap.size := blk HF.out; omega⟩
      obtain ⟨n0, n1, n2⟩ := n0
      go_wp2_with fail
      go_region_held3 (fun w' => w'.cell? ⟨bx, 0, none⟩ = some (.func (.func 49) #[] #[]) ∧ w'.cell? ⟨g0, k * 2, none⟩ = some (.int .i64 l0) ∧ w'.cell? ⟨g0, k * 2 + 1, none⟩ = some (.int .i64 u0) ∧ w'.cell? ⟨g1, k * 2, none⟩ = some (.int .i64 l1) ∧ w'.cell? ⟨g1, k * 2 + 1, none⟩ = some (.int .i64 u1)) (((try go_split_ands); (repeat' apply And.intro); all_goals (first | with_reducible assumption | ((with_reducible refine keep_alloc _ ?_); with_reducible assumption) | ((with_reducible refine below_alloc _ ?_); with_reducible assumption) | ((with_reducible refine keep_realloc (by assumption) ?_); (simp only []; omega)) | ((with_reducible refine below_realloc (by assumption) ?_); omega) | ((with_reducible refine keep_realloc (by assumption) ?_); (simp only [World.size_alloc]; omega)) | ((with_reducible refine below_realloc (by assumption) ?_); (simp only [World.size_alloc]; omega)) | ((with_reducible refine keep_realloc2 (by assumption) ?_); (simp only []; omega)) | ((with_reducible refine keep_realloc (by assumption) ?_); (simp only [World.size_setCell]; omega)) | ((with_reducible refine below_realloc (by assumption) ?_); (simp only [World.size_setCell]; omega)) | ((with_reducible refine keep_under (by assumption) (by simp only []; omega) (by simp [World.setCell]) ?_); first | exact cset (by simp only []; omega) | exact (cset (by simp only []; omega)).trans (cset (by simp only []; omega))) | ((with_reducible refine below_under (by assumption) (by omega) ?_); first | exact (Below.refl _ _).setCell (by simp only []; omega) _ | exact ((Below.refl _ _).setCell (by simp only []; omega) _).setCell (by simp only []; omega) _) | ((with_reducible refine below_realloc2 (by assumption) ?_); omega) | (with_reducible exact cell_later hb (by assumption)) | (with_reducible exact below_on (by assumption) hb) | ((repeat (with_reducible refine keep_set _ (by (simp only []; omega)) ?_)); with_reducible assumption) | ((repeat (with_reducible refine below_set _ (by (simp only []; omega)) ?_)); with_reducible assumption) | (simp; done) | (simp [go_sem]; done) | (simp [go_sem, *]; done) | go_grown))) (first
        | (go_at_call 49; refine (wide_ix HV.out _).mono ?_; rintro e w4 ⟨rfl, hb⟩; have hS4 : Below w.heap.size w w4 := below_on hS.drew hb; obtain ⟨cs, hbk, hcs, hrest⟩ := hO.out; have hb4 := Blk.below hbk.drew hb; have g0' := (hb4.cell (k * 2)).trans (Array.getElem?_eq_getElem (by omega)); have g1' := (hb4.cell (k * 2 + 1)).trans (Array.getElem?_eq_getElem (by omega)); have f0' := hb4.frozen (k * 2); have f1' := hb4.frozen (k * 2 + 1); have HB := Lib.hid (show OutWide w4 g k (eachWide z0 z1) jl jh from ⟨cs, hb4, hcs, hrest⟩); clear hbk hb4 hrest))
      all_goals go_wp2_with fail
      all_goals go_roundw
      case rel => exact ⟨k + 1, by omega, by go_num, Lib.hid (HB.out.step hlt HN.out), (hS4.setCell (by simp only []; omega) _).setCell (by simp only []; omega) _⟩
      case measure => simp [intOf] <;> omega
    · obtain rfl : k = 4 := by omega
      go_wp2_with fail
      go_ret
      exact ⟨g, rfl, hO.out.at, hS⟩
end Go.Proofs.Ytdpooiiacdfpkaa
