/-
  The reference's draws, on: lists of numbers (l20Nums, DrawInputs), what is reckoned and two bounds (DrawItvDo), how two stand (DrawItvRel, DrawItvNot). No conditions but bounds on how far the reader has come.
-/
import Derived.Test.YtbkfhlppcocamaaDraw2
import Derived.Laws.AppendOwn
import Derived.Laws.OwnMore
import Derived.OwnWalk
import Derived.LoopTactic
import Derived.Deep.Onto
namespace Go.Proofs.Ytbkfhlppcocamaa
set_option linter.unusedSimpArgs false
set_option linter.unusedVariables false
open Go.ChangeShapes Go.WideShapes Go.ChangeAt Go.RowKit

/-- A list of integers lies so in memory, in a block of the call's own. -/
def NumsAt (B : Nat) (w : World) (v : Value) (zs : List Int) : Prop :=
  (∀ z ∈ zs, -32768 ≤ z ∧ z ≤ 32767) ∧ w.ownsRow B 3 1 v zs.length (zs.map (Value.int .i64))
theorem own_block {w w' : World} {base : Nat} {e : TypeId} {size : Nat} {v : Value} {n : Nat} {xs : List Value} (h : w.ownsRow base e size v n xs) (hb : ∀ k, base ≤ k → k < w.heap.size → w'.heap[k]? = w.heap[k]?) : w'.ownsRow base e size v n xs := by
  refine ⟨h.1, ?_⟩
  rcases h.2 with h | ⟨g, cap, cur, rfl, h1, hg, h2, h3, h4, h5⟩
  · exact .inl h
  · refine .inr ⟨g, cap, cur, rfl, h1, (hb g h1 ?_).trans hg, h2, h3, h4, h5⟩
    rcases Nat.lt_or_ge g w.heap.size with h' | h'
    · exact h'
    · rw [Array.getElem?_eq_none h'] at hg; cases hg
theorem But.grown {b : Nat} {u w w' : World} {row : Option Nat} (h : But b u w) (hg : w.grownBy w' row) (hr : ∀ k, row = some k → u.heap.size ≤ k) : But b u w' :=
  ⟨hg.os.trans h.os, hg.tape.trans h.tape, hg.output.trans h.output, Nat.le_trans h.size hg.size, fun k hk hb => (hg.block k (Nat.lt_of_lt_of_le hk h.size) (fun e => by have := hr k e.symm; omega)).trans (h.block k hk hb)⟩
theorem Rd.grown {w w' : World} {rb : Nat} {p : Int} {row : Option Nat} (h : Rd w rb p) (hg : w.grownBy w' row) (hr : ∀ k, row = some k → rb < k) : Rd w' rb p :=
  h.keep fun k hk => hg.block k (by have := h.lt; omega) (fun e => by have := hr k e.symm; omega)
theorem info_int6 : (Try.prog.info? 3).map (fun i => (i.zero, i.size, i.bytes)) = some (some (.int .i64 0), 1, 8) := by kernel_rfl
def DrawNums (rb : Nat) (p : Int) (w : World) (e : Ending) (w' : World) : Prop :=
  ∃ (v : Value) (zs : List Int) (p' : Int), e = .returned v ∧ zs.length = 12 ∧ NumsAt w.heap.size w' v zs ∧ p ≤ p' ∧ p' ≤ p + 36 ∧ Rd w' rb p' ∧ But rb w w'
set_option maxRecDepth 100000 in
set_option maxHeartbeats 4000000 in
theorem l20Nums_s (rb : Nat) (p : Int) (w : World) (h : Rd w rb p) (hp : p ≤ 999999800) : Calls Try.prog 57 #[.pointer (some ⟨rb, 0, none⟩), .int .i64 12] w (DrawNums rb p w) := by
  obtain ⟨i0, hi, hz0, hz1, hz2⟩ := info_parts info_int6
  have hrb := h.lt
  go_enter Try.func57, Try.ntmps57
  go_wp2_with fail
  go_loopw [5, 6] (fun v i wr => ∃ (k : Nat) (zs : List Int) (p1 : Int), k ≤ 12 ∧ i = .int .i64 k ∧ zs.length = k ∧ Hid (NumsAt w.heap.size wr v zs) ∧ p ≤ p1 ∧ p1 ≤ p + 3 * (k : Int) ∧ Rd wr rb p1 ∧ But rb w wr) (fun _ i _ => 12 - (intOf i).toNat)
  case atStart =>
    refine ⟨0, [], p, by omega, rfl, rfl, Lib.hid ⟨(fun z hz => by cases hz), ?_⟩, by omega, by omega, h.alloc _, (But.refl _ _).alloc _⟩
    exact World.ownsRow_lit w #[] 0 (Nat.le_refl _) (by unfold maxLen; omega) rfl
  case round =>
    obtain ⟨k, zs, p1, hk, rfl, hlen, hN, hp1, hp2, hR, hU⟩ := hrel
    have hz := hU.size
    by_cases hlt : k < 12
    · go_wp2_with fail
      refine (l20Num_s _ _ _ hR (by omega)).mono ?_
      rintro e w2 ⟨x, p2, rfl, hx, hq1, hq2, hR2, hb2⟩
      have hs2 := hb2.size
      have hown : w2.ownsRow w.heap.size 3 1 _ zs.length (zs.map (Value.int .i64)) := own_block hN.out.2 (fun j h1 h2 => hb2.block j h2 (by omega))
      have hzs := Lib.hid hN.out.1
      have hU2 := hU.trans hb2
      clear hR hU hb2 hN
      go_wp2_with (at_builtin; refine wpList_append_own _ rfl _ _ 45 rfl w.heap.size 3 i0 (.int .i64 0) 1 8 Try.underlying45 hi hz0 hz1 hz2 rfl (by decide) _ _ _ rfl (hown.alloc _) ⟨w2.heap.size, 0, none⟩ 1 1 [.int .i64 x] rfl rfl ?c1 ?c2 ?c3 ?c4 ?c5 ?_)
      case c1 =>
        intro j u hj
        match j, hj with
        | 0, hj => simp at hj; subst hj; simp [Addr.add]
      case c2 => intro u hu; simp at hu; subst hu; rfl
      case c3 => unfold maxLen; omega
      case c4 => omega
      case c5 => (try simp); omega
      intro v' w3 hown' hgrow _
      have hr : ∀ j, Value.ownBlock _ = some j → w.heap.size ≤ j := fun j hj => (hown.lt j hj).1
      have hU3 := (hU2.alloc _).grown hgrow hr
      have hR3 := (hR2.alloc _).grown hgrow (fun j hj => by have := hr j hj; omega)
      have hN3 : Hid (NumsAt w.heap.size w3 v' (zs ++ [x])) := Lib.hid ⟨fun z hz => by
        rcases List.mem_append.1 hz with h1 | h1
        · exact hzs.out z h1
        · simp at h1; subst h1; exact hx, by rw [List.map_append, show (zs ++ [x]).length = k + 1 by simp [hlen]]; exact hown'⟩
      clear hown' hgrow hown hr hU2 hR2 hzs
      go_wp2_with fail
      go_roundw
      case rel => first | exact ⟨k + 1, zs ++ [x], p2, by omega, by go_num, by simp [hlen], hN3, by omega, by omega, hR3, hU3⟩ | ((repeat apply Exists.intro); exact ⟨⟨k + 1, zs ++ [x], p2, by omega, by go_num, by simp [hlen], hN3, by omega, by omega, hR3, hU3⟩, rfl⟩)
      case measure => simp [intOf] <;> omega
    · go_wp2_with fail
      go_ret
      unfold DrawNums
      obtain rfl : k = 12 := by omega
      exact ⟨_, zs, p1, rfl, hlen, hN.out, by omega, by omega, hR, hU⟩
/-- What DrawInputs leaves: a number, and a list of twelve. -/
def DrawsIn (w : World) (e : Ending) (w' : World) : Prop := ∃ (n : Int) (v : Value) (zs : List Int), e = .returned (.tuple #[.int .i64 n, v]) ∧ (-32768 ≤ n ∧ n ≤ 32767) ∧ zs.length = 12 ∧ NumsAt w.heap.size w' v zs ∧ Below w.heap.size w w'
set_option maxHeartbeats 2000000 in
theorem drawInputs_s (a : Option Addr) (len cap : Nat) (z : List Int) (w : World) (hrow : IsRow .u8 w a len cap z) :
    Calls Try.prog 34 #[.slice a len cap] w (DrawsIn w) := by
  go_enter Try.func34, Try.ntmps34
  go_wp2_with fail
  refine (open_s _ _ _ _ _ hrow).mono ?_
  rintro e w0 ⟨rfl, hR, hb0⟩
  go_wp2_with fail
  refine (l20Num_s _ _ _ hR (by omega)).mono ?_
  rintro e w1 ⟨n, p1, rfl, hn, hq1, hq2, hR1, hb1⟩
  go_wp2_with fail
  refine (l20Nums_s _ _ _ hR1 (by omega)).mono ?_
  rintro e w2 ⟨v, zs, p2, rfl, hl, hN, hq3, hq4, hR2, hb2⟩
  have hs0 := hb0.size
  have hs1 := hb1.size
  have hB : Below w.heap.size w w2 := (hb1.trans hb2).to_below hb0 (Nat.le_refl _) hb0.size
  have hN2 : NumsAt w.heap.size w2 v zs := ⟨hN.1, hN.2.mono (by omega)⟩
  clear hb0 hb1 hb2 hN
  go_wp2_with fail
  go_ret2
  unfold DrawsIn
  exact ⟨n, v, zs, rfl, hn, hl, hN2, hB⟩
end Go.Proofs.Ytbkfhlppcocamaa
