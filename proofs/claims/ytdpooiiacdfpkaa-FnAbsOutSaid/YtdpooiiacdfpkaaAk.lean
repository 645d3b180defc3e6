/-
  The program's states: what abs, fold and slices.Clone leave. No conditions but those that each theorem says.
-/
import Derived.Test.YtdpooiiacdfpkaaAj
import Derived.Test.YtdpooiiacdfpkaaAbsIn2
import Derived.Test.YtdpooiiacdfpkaaLast
namespace Go.Proofs.Ytdpooiiacdfpkaa
set_option linter.unusedSimpArgs false
set_option linter.unusedVariables false
open Go.ChangeShapes Go.WideShapes Go.ChangeAt Go.RowKit Go.Sort

theorem Blk.drew {w : World} {g : Nat} {t : TypeId} {cs : Array Value} (h : Blk w g t cs) : Blk w.drew g t cs := h.below (Below.refl _ _).drew
theorem StAt.rd {w : World} {g : Nat} {z : List (Int × Int)} {lo hi : Int} (h : StAt w g z lo hi) (hl : z.length = 4) : RdI w (some ⟨g, 0, none⟩) 4 z := by
  refine ⟨hl, .inr ⟨_, rfl, fun i hi => ?_⟩⟩
  obtain ⟨h1, h2⟩ := h.1 i hi
  rw [add_none, Nat.zero_add]
  exact ⟨h1, h2⟩
def CloneR (w : World) (z : List (Int × Int)) (e : Ending) (w' : World) : Prop := ∃ gg cp, e = .returned (.slice (some ⟨gg, 0, none⟩) 4 cp) ∧ (w.heap.size ≤ gg ∧ 4 ≤ cp) ∧ OwnB w' gg 4 z ∧ Below w.heap.size w w'
set_option maxRecDepth 100000 in
set_option maxHeartbeats 4000000 in
theorem clone_l (g c : Nat) (z : List (Int × Int)) (w : World) (hz : RdI w (some ⟨g, 0, none⟩) 4 z) : Calls Try.prog 71 #[.slice (some ⟨g, 0, none⟩) 4 c] w (CloneR w z) := by
  obtain ⟨i0, hi0, hz0, hz1, hz2⟩ := info_parts info_itv2
  have hzl := hz.1
  have HZ := Lib.hid hz
  have HL := Lib.hid (show (cellsI z).length = 4 * 2 by rw [cellsI_len, hzl])
  have hq : ∀ W : World, (binOp .eql 25 (.slice (some ⟨g, 0, none⟩) 4 c) (.slice none 0 0)).run Try.prog W = .ok (.bool false) W := fun W => Lib.run_eql_slice_nil W _ _ _ _ _ _ _ Try.underlying25
  clear hz
  go_enter Try.func71, Try.ntmps71
  go_wp2_with (at_builtin; refine wpList_append_lies _ rfl _ _ _ rfl w.heap.size 27 i0 _ 2 16 Try.underlying25 hi0 hz0 hz1 hz2 rfl (by omega) (.slice (some ⟨w.heap.size, 0, none⟩) 0 0) 0 [] rfl (own_empty rfl (Nat.le_refl _)) ⟨g, 0, none⟩ 4 c (cellsI z) rfl HL.out (news_of HZ.out (by go_grown)) (cellsI_one z) (by omega) (by unfold maxLen; omega) (by omega) (by simp only [World.size_alloc]; omega) (w.heap.size + 1) (by simp) ?_; intro gg cp w1 hown1 hgrow hat hlt)
  have hS : Below w.heap.size w w1 := ((Below.refl w.heap.size w).alloc (Nat.le_refl _) _).grown hgrow (by simp only [World.size_alloc]; omega) (fun k hk => by simp [Value.ownBlock] at hk; omega)
  have hge : w.heap.size ≤ gg := by rcases hat with h | h <;> (try simp [Value.ownBlock] at h) <;> omega
  have hcp : 4 ≤ cp := own_cap hown1
  have HO := Lib.hid (own_of (z := z) hown1 hzl (by omega))
  clear hown1 hat hgrow
  go_wp2_with fail
  go_ret
  unfold CloneR
  exact ⟨gg, cp, rfl, ⟨hge, hcp⟩, HO.out, hS⟩
set_option maxRecDepth 100000 in
set_option maxHeartbeats 4000000 in
theorem abs_nil (w : World) : Calls Try.prog 60 #[.pointer none] w (EmptyR w) := by
  go_enter Try.func60, Try.ntmps60
  go_wp2_with fail
  all_goals refine bodyPost_ret (by simp [results, Try.results60, go_sem, *]; try rfl) rfl ?_
  all_goals exact ⟨rfl, by go_grown⟩
set_option maxRecDepth 100000 in
set_option maxHeartbeats 4000000 in
theorem abs_on (g : Nat) (lo hi : Int) (z : List (Int × Int)) (w : World) (hs : StAt w g z lo hi) (hl : z.length = 4) : Calls Try.prog 60 #[.pointer (some ⟨g, 0, none⟩)] w (FullR w lo hi z) := by
  have HZ := Lib.hid (hs.rd hl)
  obtain ⟨_, h8, h9⟩ := hs
  have hg : g < w.heap.size := blk h8
  go_enter Try.func60, Try.ntmps60
  go_wp2_with fail
  go_region_held3 (fun w' => w'.cell? ⟨g, 8, none⟩ = some (.int .i64 lo) ∧ w'.cell? ⟨g, 9, none⟩ = some (.int .i64 hi)) (((try go_split_ands); (repeat' apply And.intro); all_goals (first | with_reducible assumption | ((with_reducible refine keep_alloc _ ?_); with_reducible assumption) | ((with_reducible refine below_alloc _ ?_); with_reducible assumption) | ((with_reducible refine keep_realloc (by assumption) ?_); (simp only []; omega)) | ((with_reducible refine below_realloc (by assumption) ?_); omega) | ((with_reducible refine keep_realloc (by assumption) ?_); (simp only [World.size_alloc]; omega)) | ((with_reducible refine below_realloc (by assumption) ?_); (simp only [World.size_alloc]; omega)) | ((with_reducible refine keep_realloc2 (by assumption) ?_); (simp only []; omega)) | ((with_reducible refine keep_realloc (by assumption) ?_); (simp only [World.size_setCell]; omega)) | ((with_reducible refine below_realloc (by assumption) ?_); (simp only [World.size_setCell]; omega)) | ((with_reducible refine keep_under (by assumption) (by simp only []; omega) (by simp [World.setCell]) ?_); first | exact cset (by simp only []; omega) | exact (cset (by simp only []; omega)).trans (cset (by simp only []; omega))) | ((with_reducible refine below_under (by assumption) (by omega) ?_); first | exact (Below.refl _ _).setCell (by simp only []; omega) _ | exact ((Below.refl _ _).setCell (by simp only []; omega) _).setCell (by simp only []; omega) _) | ((with_reducible refine below_realloc2 (by assumption) ?_); omega) | (with_reducible exact cell_later hb (by assumption)) | (with_reducible exact below_on (by assumption) hb) | ((repeat (with_reducible refine keep_set _ (by (simp only []; omega)) ?_)); with_reducible assumption) | ((repeat (with_reducible refine below_set _ (by (simp only []; omega)) ?_)); with_reducible assumption) | (simp; done) | (simp [go_sem]; done) | (simp [go_sem, *]; done) | go_grown))) (first
    | (go_at_call 71; refine (clone_l g _ z _ (HZ.out.below (by go_grown))).mono ?_; rintro e w1 ⟨gg, cp, rfl, hge, ho, hb⟩; have kC : Blk w1 w.heap.size 29 #[.bool false, .slice none 0 0, .int .i64 0, .int .i64 0] := Blk.below ((Blk.new_at rfl).drew) hb; obtain ⟨r0, r1, r2, r3⟩ := kC.four; obtain ⟨f0, f1, f2, f3⟩ := kC.free; have hS : Below w.heap.size w w1 := below_on (((Below.refl w.heap.size w).alloc (Nat.le_refl _) _).drew) hb; have HO := Lib.hid ho; have hz1 : w.heap.size < w1.heap.size := kC.lt; simp only [World.size_drew, World.size_alloc] at hge; clear ho kC))
  all_goals go_wp2_with fail
  all_goals refine bodyPost_ret (by simp [results, Try.results60, go_sem, *]; try rfl) rfl ?_
  all_goals (unfold FullR; exact ⟨gg, cp, rfl, by omega, (((HO.out.far (by simp only []; omega) _).far (by simp only []; omega) _).far (by simp only []; omega) _).far (by simp only []; omega) _, (((hS.setCell (by simp only []; omega) _).setCell (by simp only []; omega) _).setCell (by simp only []; omega) _).setCell (by simp only []; omega) _⟩)
set_option maxHeartbeats 1000000 in
theorem fold_nil (p : Option Addr) (f : Value) (w : World) : Calls Try.prog 69 #[.pointer none, .pointer p, f] w fun e w' => e = .returned (.pointer p) ∧ w = w' := by
  go_enter Try.func69, Try.ntmps69
  go_wp2_with fail
  all_goals (go_ret; exact ⟨rfl, rfl⟩)
set_option maxHeartbeats 1000000 in
theorem fold_one (g : Nat) (f : Value) (w : World) : Calls Try.prog 69 #[.pointer (some ⟨g, 0, none⟩), .pointer none, f] w fun e w' => e = .returned (.pointer (some ⟨g, 0, none⟩)) ∧ w = w' := by
  go_enter Try.func69, Try.ntmps69
  go_wp2_with fail
  all_goals (go_ret; exact ⟨rfl, rfl⟩)
end Go.Proofs.Ytdpooiiacdfpkaa
