/-
  Slices of bounds that are gathered by append, and the reference's copy of a state. No conditions but those that each theorem says.
-/
import Derived.Test.YtdpooiiacdfpkaaAo
import Derived.Laws.AppendOwn
import Derived.Laws.OwnMore
import Derived.OwnWalk
import Derived.LoopTactic
import Derived.Deep.AppendLies
import Derived.Deep.Onto
namespace Go.Proofs.Ytdpooiiacdfpkaa
set_option linter.unusedSimpArgs false
set_option linter.unusedVariables false
open Go.ChangeShapes Go.WideShapes Go.ChangeAt Go.RowKit Go.Sort

/-- The cells of bounds. -/
def cellsI (z : List (Int × Int)) : List Value := z.flatMap fun q => [Value.int .i64 q.1, Value.int .i64 q.2]
theorem cellsI_len (z : List (Int × Int)) : (cellsI z).length = z.length * 2 := by
  induction z with
  | nil => rfl
  | cons n z ih => simp only [cellsI, List.flatMap_cons, List.length_append, List.length_cons, List.length_nil] at ih ⊢; rw [ih]; omega
theorem cellsI_get (z : List (Int × Int)) : ∀ i, i < z.length → (cellsI z)[i * 2]? = some (.int .i64 (z.getD i (0, 0)).1) ∧ (cellsI z)[i * 2 + 1]? = some (.int .i64 (z.getD i (0, 0)).2) := by
  induction z with
  | nil => intro i hi; simp at hi
  | cons q z ih =>
    intro i hi
    match i, hi with
    | 0, _ => exact ⟨rfl, rfl⟩
    | i + 1, hi =>
      have h := ih i (by simpa using hi)
      have e : cellsI (q :: z) = Value.int .i64 q.1 :: Value.int .i64 q.2 :: cellsI z := rfl
      rw [e, show (i + 1) * 2 = i * 2 + 1 + 1 by omega]
      simpa [List.getD_eq_getElem?_getD] using h
theorem cellsI_snoc (z : List (Int × Int)) (q : Int × Int) : cellsI (z ++ [q]) = cellsI z ++ [Value.int .i64 q.1, Value.int .i64 q.2] := by
  simp [cellsI]
theorem cellsI_one (z : List (Int × Int)) : ∀ u ∈ cellsI z, u.oneCell' = true := by
  intro u hu
  simp only [cellsI, List.mem_flatMap, List.mem_cons, List.not_mem_nil, or_false] at hu
  obtain ⟨q, _, rfl | rfl⟩ := hu <;> rfl
theorem news_of {w W : World} {ga len : Nat} {z : List (Int × Int)} (hz : RdI w (some ⟨ga, 0, none⟩) len z) (hb : Below w.heap.size w W) : ∀ j u, (cellsI z)[j]? = some u → W.cell? ((⟨ga, 0, none⟩ : Addr).add j) = some u := by
  intro j u hj
  have hzW := hz.below hb
  obtain ⟨hl, h | ⟨x, hx, h⟩⟩ := hzW
  · subst hl
    have h0 : z = [] := List.length_eq_zero_iff.1 h
    subst h0
    simp [cellsI] at hj
  · obtain rfl := Option.some.inj hx
    have hjl : j < z.length * 2 := by
      rw [← cellsI_len]
      rcases Nat.lt_or_ge j (cellsI z).length with h' | h'
      · exact h'
      · rw [List.getElem?_eq_none h'] at hj; cases hj
    obtain ⟨h1, h2⟩ := h (j / 2) (by omega)
    obtain ⟨g1, g2⟩ := cellsI_get z (j / 2) (by omega)
    rw [add_none] at h1 h2 ⊢
    rcases Nat.mod_two_eq_zero_or_one j with e | e
    · rw [show j / 2 * 2 = j by omega] at h1 g1
      rw [h1, ← hj, g1]
    · simp only at h2
      rw [show 0 + j / 2 * 2 + 1 = 0 + j by omega] at h2
      rw [show j / 2 * 2 + 1 = j by omega] at g2
      rw [h2, ← hj, g2]
theorem own_of {w : World} {base g n cap : Nat} {z : List (Int × Int)} (h : w.ownsRow base 27 2 (.slice (some ⟨g, 0, none⟩) n cap) n (cellsI z)) (hl : z.length = n) (hn : 0 < n) : OwnB w g n z := by
  rcases h.2 with ⟨h0, _⟩ | ⟨g', cap', cur, hv, hb, hg, hnc, hcm, hcs, htake⟩
  · cases h0
  · obtain ⟨rfl, rfl⟩ : g = g' ∧ cap = cap' := by
      have := hv
      simp at this
      exact this
    refine ⟨cur, hg, hl, by omega, fun i hi => ?_⟩
    obtain ⟨h1, h2⟩ := cellsI_get z i (by omega)
    rw [← htake, List.getElem?_take_of_lt (by omega)] at h1 h2
    exact ⟨by simpa using h1, by simpa using h2⟩
theorem own_cap {w : World} {base g n cap size : Nat} {e : TypeId} {xs : List Value} (h : w.ownsRow base e size (.slice (some ⟨g, 0, none⟩) n cap) n xs) : n ≤ cap := by
  rcases h.2 with ⟨h0, _⟩ | ⟨g', cap', cur, hv, hb, hg, hnc, hcm, hcs, htake⟩
  · cases h0
  · cases hv
    exact hnc
theorem own_empty {W : World} {base g : Nat} (hg : W.heap.size = g) (hb : base ≤ g) : (W.alloc (.cells #[] 27)).ownsRow base 27 2 (.slice (some ⟨g, 0, none⟩) 0 0) 0 [] := by
  subst hg
  exact World.ownsRow_lit W #[] 0 hb (by unfold maxLen; omega) rfl
theorem below_own {w : World} {base : Nat} {e : TypeId} {size : Nat} {v : Value} {n : Nat} {xs : List Value} {w' : World} (h : w.ownsRow base e size v n xs) (hb : Below w.heap.size w w') : w'.ownsRow base e size v n xs := by
  refine ⟨h.1, ?_⟩
  rcases h.2 with h | ⟨g, cap, cur, rfl, h1, hg, h2, h3, h4, h5⟩
  · exact .inl h
  · refine .inr ⟨g, cap, cur, rfl, h1, ?_, h2, h3, h4, h5⟩
    rw [← hg]
    refine hb.block g ?_
    rcases Nat.lt_or_ge g w.heap.size with h' | h'
    · exact h'
    · rw [Array.getElem?_eq_none h'] at hg; cases hg
section
variable {W w w' : World} {v v0 v1 v2 v3 : Value} {jl jh : Int} {g : Nat} {t : TypeId} {cs : Array Value}
theorem Blk.new_at (h : w.heap.size = g) : Blk (w.alloc (.cells cs t)) g t cs := by
  subst h
  exact Blk.new _ _ _
theorem Blk.four (h : Blk w g t #[v0, v1, v2, v3]) : w.cell? ⟨g, 0, none⟩ = some v0 ∧ w.cell? ⟨g, 1, none⟩ = some v1 ∧ w.cell? ⟨g, 2, none⟩ = some v2 ∧ w.cell? ⟨g, 3, none⟩ = some v3 := ⟨h.cell 0, h.cell 1, h.cell 2, h.cell 3⟩
theorem Blk.free (h : Blk w g t cs) : w.frozen? ⟨g, 0, none⟩ = false ∧ w.frozen? ⟨g, 1, none⟩ = false ∧ w.frozen? ⟨g, 2, none⟩ = false ∧ w.frozen? ⟨g, 3, none⟩ = false := ⟨h.frozen 0, h.frozen 1, h.frozen 2, h.frozen 3⟩
/-- The state that is gathered lies at the end of W. -/
def RJ0 (W : World) (v : Value) (jl jh : Int) (w : World) : Prop := Below W.heap.size W w ∧ Blk w W.heap.size 29 #[.bool true, v, .int .i64 jl, .int .i64 jh]
theorem RJ0.lt (h : RJ0 W v jl jh w) : W.heap.size < w.heap.size := h.2.lt
theorem RJ0.below (h : RJ0 W v jl jh w) (hb : Below w.heap.size w w') : RJ0 W v jl jh w' := ⟨below_on h.1 hb, h.2.below hb⟩
theorem RJ0.drew (h : RJ0 W v jl jh w) : RJ0 W v jl jh w.drew := h.below (Below.refl _ _).drew
theorem RJ0.alloc (h : RJ0 W v jl jh w) (o : Obj) : RJ0 W v jl jh (w.alloc o) := h.below ((Below.refl _ _).alloc (Nat.le_refl _) o)
theorem RJ0.grown {row : Option Nat} (h : RJ0 W v jl jh w) (hg : w.grownBy w' row) (hr : ∀ k, row = some k → W.heap.size + 1 ≤ k) : RJ0 W v jl jh w' :=
  ⟨h.1.grown hg h.1.size (fun k hk => by have := hr k hk; omega), (hg.block _ h.2.lt (fun e => by have := hr _ e.symm; omega)).trans h.2⟩
theorem RJ0.six {p0 p1 p2 p3 p4 p5 : Addr} {x0 x1 x2 x3 x4 x5 : Value} (h : RJ0 W v jl jh w) (h0 : W.cell? p0 = some x0) (h1 : W.cell? p1 = some x1) (h2 : W.cell? p2 = some x2) (h3 : W.cell? p3 = some x3) (h4 : W.cell? p4 = some x4) (h5 : W.cell? p5 = some x5) :
    w.cell? p0 = some x0 ∧ w.cell? p1 = some x1 ∧ w.cell? p2 = some x2 ∧ w.cell? p3 = some x3 ∧ w.cell? p4 = some x4 ∧ w.cell? p5 = some x5 ∧ w.cell? ⟨W.heap.size, 1, none⟩ = some v ∧ RJ0 W v jl jh w :=
  ⟨(h.1.cell (World.block_lt_of_cell? W _ h0)).trans h0, (h.1.cell (World.block_lt_of_cell? W _ h1)).trans h1, (h.1.cell (World.block_lt_of_cell? W _ h2)).trans h2, (h.1.cell (World.block_lt_of_cell? W _ h3)).trans h3, (h.1.cell (World.block_lt_of_cell? W _ h4)).trans h4, (h.1.cell (World.block_lt_of_cell? W _ h5)).trans h5, h.2.cell 1, h⟩
theorem own_below {base : Nat} {e : TypeId} {size n : Nat} {xs : List Value} {p : Addr} (h : w.ownsRow base e size v n xs) (hp : p.block < base) (u : Value) : (w.setCell p u).ownsRow base e size v n xs := by
  refine ⟨h.1, ?_⟩
  rcases h.2 with h | ⟨g, cap, cur, rfl, h1, hg, h2, h3, h4, h5⟩
  · exact .inl h
  · exact .inr ⟨g, cap, cur, rfl, h1, (Below.heap_setCell w p u g (by omega)).trans hg, h2, h3, h4, h5⟩
end
/-- A state whose slice is new. -/
def FullR (w : World) (lo hi : Int) (z : List (Int × Int)) (e : Ending) (w' : World) : Prop := ∃ g cap, e = .returned (.agg #[.bool true, .slice (some ⟨g, 0, none⟩) 4 cap, .int .i64 lo, .int .i64 hi]) ∧ (w.heap.size ≤ g ∧ 4 ≤ cap) ∧ OwnB w' g 4 z ∧ Below w.heap.size w w'
/-- No state. -/
def EmptyR (w : World) (e : Ending) (w' : World) : Prop := e = .returned (.agg #[.bool false, .slice none 0 0, .int .i64 0, .int .i64 0]) ∧ Below w.heap.size w w'
theorem info_itv2 : (Try.prog.info? 27).map (fun i => (i.zero, i.size, i.bytes)) = some (some (.agg #[.int .i64 0, .int .i64 0]), 2, 16) := by kernel_rfl
set_option maxRecDepth 100000 in
set_option maxHeartbeats 4000000 in
theorem copy_off (a : Option Addr) (len cap : Nat) (lo hi : Int) (w : World) : Calls Try.prog 38 #[.agg #[.bool false, .slice a len cap, .int .i64 lo, .int .i64 hi]] w (EmptyR w) := by
  go_enter Try.func38, Try.ntmps38
  go_wp2_with fail
  all_goals refine bodyPost_ret (by simp [results, Try.results38, go_sem, *]; try rfl) rfl ?_
  all_goals exact ⟨rfl, by go_grown⟩
set_option maxRecDepth 100000 in
set_option maxHeartbeats 4000000 in
theorem copy_on (ga cap : Nat) (lo hi : Int) (z : List (Int × Int)) (w : World) (hz : RdI w (some ⟨ga, 0, none⟩) 4 z) : Calls Try.prog 38 #[.agg #[.bool true, .slice (some ⟨ga, 0, none⟩) 4 cap, .int .i64 lo, .int .i64 hi]] w (FullR w lo hi z) := by
  obtain ⟨i0, hi0, hz0, hz1, hz2⟩ := info_parts info_itv2
  have hzl := hz.1
  have HZ := Lib.hid hz
  have HL := Lib.hid (show (cellsI z).length = 4 * 2 by rw [cellsI_len, hzl])
  clear hz
  go_enter Try.func38, Try.ntmps38
  go_wp2_with fail
  go_region_held3 (fun w' => w'.cell? ⟨w.heap.size, 1, none⟩ = some (.slice (some ⟨ga, 0, none⟩) 4 cap) ∧ w'.cell? ⟨w.heap.size, 2, none⟩ = some (.int .i64 lo) ∧ w'.cell? ⟨w.heap.size, 3, none⟩ = some (.int .i64 hi))
    (((try go_split_ands); (refine ⟨?_, ?_, ?_⟩); all_goals first | with_reducible assumption | ((repeat (with_reducible refine keep_set _ (by (simp only []; omega)) ?_)); with_reducible assumption) | (simp [go_sem]; done) | (rw [hgrow.cell_far _ (by simp only [World.size_alloc, World.size_drew]; omega) (by simp [Value.ownBlock] <;> omega)]; simp [go_sem]; done)))
    ((refine step_append_lies _ (by rfl) _ _ _ (by rfl) (w.heap.size + 1 + 1) 27 i0 _ 2 16 Try.underlying25 hi0 hz0 hz1 hz2 rfl (by omega) _ 0 [] (by rfl) (own_empty (by simp) (by omega)) ⟨ga, 0, none⟩ 4 cap (cellsI z) (by rfl) HL.out (news_of HZ.out (by go_grown)) (cellsI_one z) (by omega) (by unfold maxLen; omega) (by omega) (by simp only [World.size_alloc, World.size_drew]; omega) (w.heap.size + 1 + 1 + 1) (by simp) ?_; intro gg cp w1 hown1 hgrow hat hlt; have r0 : w1.cell? ⟨w.heap.size + 1, 0, none⟩ = some (.bool false) := (hgrow.cell_far _ (by simp only [World.size_alloc, World.size_drew]; omega) (by simp [Value.ownBlock] <;> omega)).trans (by simp [go_sem]); have f0 : w1.frozen? ⟨w.heap.size + 1, 0, none⟩ = false := (hgrow.frozen_far _ (by simp only [World.size_alloc, World.size_drew]; omega) (by simp [Value.ownBlock] <;> omega)).trans (by simp [go_sem]); have r1 : w1.cell? ⟨w.heap.size + 1, 1, none⟩ = some (.slice none 0 0) := (hgrow.cell_far _ (by simp only [World.size_alloc, World.size_drew]; omega) (by simp [Value.ownBlock] <;> omega)).trans (by simp [go_sem]); have f1 : w1.frozen? ⟨w.heap.size + 1, 1, none⟩ = false := (hgrow.frozen_far _ (by simp only [World.size_alloc, World.size_drew]; omega) (by simp [Value.ownBlock] <;> omega)).trans (by simp [go_sem]); have r2 : w1.cell? ⟨w.heap.size + 1, 2, none⟩ = some (.int .i64 0) := (hgrow.cell_far _ (by simp only [World.size_alloc, World.size_drew]; omega) (by simp [Value.ownBlock] <;> omega)).trans (by simp [go_sem]); have f2 : w1.frozen? ⟨w.heap.size + 1, 2, none⟩ = false := (hgrow.frozen_far _ (by simp only [World.size_alloc, World.size_drew]; omega) (by simp [Value.ownBlock] <;> omega)).trans (by simp [go_sem]); have r3 : w1.cell? ⟨w.heap.size + 1, 3, none⟩ = some (.int .i64 0) := (hgrow.cell_far _ (by simp only [World.size_alloc, World.size_drew]; omega) (by simp [Value.ownBlock] <;> omega)).trans (by simp [go_sem]); have f3 : w1.frozen? ⟨w.heap.size + 1, 3, none⟩ = false := (hgrow.frozen_far _ (by simp only [World.size_alloc, World.size_drew]; omega) (by simp [Value.ownBlock] <;> omega)).trans (by simp [go_sem]); have hS : Below w.heap.size w w1 := (show Below w.heap.size w _ from by go_grown).grown hgrow (by simp only [World.size_alloc, World.size_drew]; omega) (fun k hk => by simp [Value.ownBlock] at hk; omega); have hge : w.heap.size + 1 + 1 ≤ gg := (by rcases hat with h | h <;> (try simp [Value.ownBlock] at h) <;> omega); have hcp : 4 ≤ cp := own_cap hown1; have HO := Lib.hid (own_of (z := z) hown1 hzl (by omega)); clear hown1 hat))
  go_wp2_with fail
  refine bodyPost_ret (by simp [results, Try.results38, go_sem, *]; try rfl) rfl ?_
  unfold FullR
  exact ⟨gg, cp, rfl, by omega, (((HO.out.far (by simp only []; omega) _).far (by simp only []; omega) _).far (by simp only []; omega) _).far (by simp only []; omega) _, (((hS.setCell (by simp only []; omega) _).setCell (by simp only []; omega) _).setCell (by simp only []; omega) _).setCell (by simp only []; omega) _⟩
end Go.Proofs.Ytdpooiiacdfpkaa
