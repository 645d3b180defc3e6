/-
  What 'corners' computes: the pairs of operands at which an operation has its least and its greatest result. No conditions but that the bounds are bounds.
-/
import Derived.Test.YtempklcflcpjaaaDo
import Derived.Test.YtempklcflcpjaaaFold
import Derived.Laws.AppendOwn
import Derived.Laws.OwnMore
import Derived.OwnWalk
import Derived.LoopTactic
import Derived.Deep.AppendLies
import Derived.Deep.Onto
namespace Go.Proofs.Ytempklcflcpjaaa
set_option linter.unusedSimpArgs false
set_option linter.unusedVariables false
open Go.ChangeShapes Go.WideShapes Go.ChangeAt Go.RowKit

def candL (b : Int × Int) : List Int := [b.1, b.2, -1, 1]
def goodC (b : Int × Int) (n : Int) : Bool := n != 0 && hasI b n
def secsL (op : Int) (b : Int × Int) : List Int := if op = 4 then (candL b).filter (goodC b) else [b.1, b.2]
def cornL (a : Int × Int) (ns : List Int) : List (Int × Int) := ns.flatMap fun n => [(a.1, n), (a.2, n)]
def pairV (ps : List (Int × Int)) : List Value := ps.flatMap fun p => [Value.int .i64 p.1, Value.int .i64 p.2]
theorem cornL_len (a : Int × Int) (ns : List Int) : (cornL a ns).length = 2 * ns.length := by
  induction ns with
  | nil => rfl
  | cons n ns ih => simp only [cornL, List.flatMap_cons, List.length_append, List.length_cons, List.length_nil] at ih ⊢; rw [ih]; omega
theorem pairV_len (ps : List (Int × Int)) : (pairV ps).length = ps.length * 2 := by
  induction ps with
  | nil => rfl
  | cons n ns ih => simp only [pairV, List.flatMap_cons, List.length_append, List.length_cons, List.length_nil] at ih ⊢; rw [ih]; omega
theorem take_snoc_int (ns : List Int) (k : Nat) (h : k < ns.length) : ns.take (k + 1) = ns.take k ++ [ns.getD k 0] := by
  rw [List.take_succ_eq_append_getElem h, List.getD_eq_getElem?_getD, List.getElem?_eq_getElem h, Option.getD_some]
theorem corn_snoc (a : Int × Int) (ns : List Int) (k : Nat) (h : k < ns.length) : pairV (cornL a (ns.take (k + 1))) = pairV (cornL a (ns.take k)) ++ [Value.int .i64 a.1, Value.int .i64 (ns.getD k 0), Value.int .i64 a.2, Value.int .i64 (ns.getD k 0)] := by
  rw [take_snoc_int ns k h]
  simp [cornL, pairV, List.flatMap_append]
theorem secs_snoc (b : Int × Int) (k : Nat) (h : k < 4) : ((candL b).take (k + 1)).filter (goodC b) = ((candL b).take k).filter (goodC b) ++ (if goodC b ((candL b).getD k 0) = true then [(candL b).getD k 0] else []) := by
  rw [take_snoc_int _ k (by simpa [candL] using h), List.filter_append]
  congr 1
  by_cases g : goodC b ((candL b).getD k 0) = true <;> simp [List.filter_cons, g]
theorem secs_len (b : Int × Int) (k : Nat) : (((candL b).take k).filter (goodC b)).length ≤ 4 := by
  refine Nat.le_trans (List.length_filter_le _ _) ?_
  rw [List.length_take]
  simp only [candL, List.length_cons, List.length_nil]
  omega

/-- The second operands lie so in memory. -/
def SecsAt (w : World) (v : Value) (ns : List Int) : Prop :=
  ∃ A cap, v = .slice A ns.length cap ∧ ns.length ≤ 4 ∧ (0 < ns.length → ∃ g, A = some ⟨g, 0, none⟩ ∧ g < w.heap.size ∧ ∀ j, j < ns.length → w.cell? ⟨g, j, none⟩ = some (.int .i64 (ns.getD j 0)))
theorem SecsAt.of_own {w : World} {base : Nat} {e : TypeId} {v : Value} {ns : List Int} (h : w.ownsRow base e 1 v ns.length (ns.map (Value.int .i64))) (hl : ns.length ≤ 4) : SecsAt w v ns := by
  rcases h.2 with ⟨rfl, h0⟩ | ⟨g, cap, cur, rfl, hb, hg, hnc, hcm, hcs, htake⟩
  · exact ⟨none, 0, by rw [h0], hl, fun h => by omega⟩
  · refine ⟨_, cap, rfl, hl, fun hp => ⟨g, rfl, ?_, fun j hj => ?_⟩⟩
    · rcases Nat.lt_or_ge g w.heap.size with h' | h'
      · exact h'
      · rw [Array.getElem?_eq_none h'] at hg; cases hg
    · rw [h.cellAt j (by omega), List.getElem?_map, List.getElem?_eq_getElem hj, List.getD_eq_getElem?_getD, List.getElem?_eq_getElem hj]; rfl
def Corners (a : Int × Int) (ns : List Int) (w : World) (e : Ending) (w' : World) : Prop :=
  ∃ v, e = .returned v ∧ w'.ownsRow w.heap.size 58 2 v (2 * ns.length) (pairV (cornL a ns)) ∧ Below w.heap.size w w'

theorem below_own {w : World} {base : Nat} {e : TypeId} {size : Nat} {v : Value} {n : Nat} {xs : List Value} {w' : World} (h : w.ownsRow base e size v n xs) (hb : Below w.heap.size w w') : w'.ownsRow base e size v n xs := by
  refine ⟨h.1, ?_⟩
  rcases h.2 with h | ⟨g, cap, cur, rfl, h1, hg, h2, h3, h4, h5⟩
  · exact .inl h
  · refine .inr ⟨g, cap, cur, rfl, h1, (hb.block g ?_).trans hg, h2, h3, h4, h5⟩
    rcases Nat.lt_or_ge g w.heap.size with h' | h'
    · exact h'
    · rw [Array.getElem?_eq_none h'] at hg; cases hg

/-- The four candidates lie in block g. -/
def CandAt (w : World) (g : Nat) (b : Int × Int) : Prop := ∀ j, j < 4 → w.cell? ⟨g, j, none⟩ = some (.int .i64 ((candL b).getD j 0))
/-- What holds while the second operands are picked. -/
structure LP1 (w : World) (al ah bl bh : Int) (v : Value) (k : Nat) (wr : World) : Prop where
  own : wr.ownsRow (w.heap.size + 1 + 1 + 1 + 1) 3 1 v (((candL (bl, bh)).take k).filter (goodC (bl, bh))).length ((((candL (bl, bh)).take k).filter (goodC (bl, bh))).map (Value.int .i64))
  a0 : wr.cell? ⟨w.heap.size, 0, none⟩ = some (.int .i64 al)
  a1 : wr.cell? ⟨w.heap.size, 1, none⟩ = some (.int .i64 ah)
  b0 : wr.cell? ⟨w.heap.size + 1, 0, none⟩ = some (.int .i64 bl)
  b1 : wr.cell? ⟨w.heap.size + 1, 1, none⟩ = some (.int .i64 bh)
  cand : CandAt wr (w.heap.size + 1 + 1 + 1) (bl, bh)
  be : Below w.heap.size w wr
  sz : w.heap.size + 1 + 1 + 1 + 1 ≤ wr.heap.size
theorem LP1.keep {w : World} {al ah bl bh : Int} {v v' : Value} {k k' : Nat} {wr w1 : World} (h : LP1 w al ah bl bh v k wr)
    (own : w1.ownsRow (w.heap.size + 1 + 1 + 1 + 1) 3 1 v' (((candL (bl, bh)).take k').filter (goodC (bl, bh))).length ((((candL (bl, bh)).take k').filter (goodC (bl, bh))).map (Value.int .i64)))
    (hb : Below (w.heap.size + 1 + 1 + 1 + 1) wr w1) : LP1 w al ah bl bh v' k' w1 :=
  ⟨own, (hb.cell (p := ⟨_, _, none⟩) (by simp only []; omega)).trans h.a0, (hb.cell (p := ⟨_, _, none⟩) (by simp only []; omega)).trans h.a1, (hb.cell (p := ⟨_, _, none⟩) (by simp only []; omega)).trans h.b0, (hb.cell (p := ⟨_, _, none⟩) (by simp only []; omega)).trans h.b1,
    fun j hj => (hb.cell (p := ⟨_, _, none⟩) (by simp only []; omega)).trans (h.cand j hj), h.be.trans (hb.mono (by omega)), Nat.le_trans h.sz hb.size⟩
theorem info_int : (Try.prog.info? 3).map (fun i => (i.zero, i.size, i.bytes)) = some (some (.int .i64 0), 1, 8) := by kernel_rfl
theorem info_pair : (Try.prog.info? 58).map (fun i => (i.zero, i.size, i.bytes)) = some (some (.agg #[.int .i64 0, .int .i64 0]), 2, 16) := by kernel_rfl

set_option maxRecDepth 100000 in
set_option maxHeartbeats 4000000 in
theorem corners_i (op al ah bl bh : Int) (kb : -32768 ≤ bl ∧ bl ≤ bh ∧ bh ≤ 32767) (w : World) :
    Calls Try.prog 39 #[.int .i64 op, .agg #[.int .i64 al, .int .i64 ah], .agg #[.int .i64 bl, .int .i64 bh]] w (Corners (al, ah) (secsL op (bl, bh)) w) := by
  obtain ⟨i0, hi, hz0, hz1, hz2⟩ := info_parts info_int
  obtain ⟨i1, hp, hy0, hy1, hy2⟩ := info_parts info_pair
  go_enter Try.func39, Try.ntmps39
  go_upto_if 19 with fail
  go_cut [7] (fun s7 wx => ∃ W, W = wx ∧ SecsAt wx s7 (secsL op (bl, bh)) ∧ wx.cell? ⟨w.heap.size, 0, none⟩ = some (.int .i64 al) ∧ wx.cell? ⟨w.heap.size, 1, none⟩ = some (.int .i64 ah) ∧ Below w.heap.size w wx)
  case first =>
    by_cases h4 : op = 4
    · subst h4
      have HS4 := Lib.hid (show secsL 4 (bl, bh) = ((candL (bl, bh)).take 4).filter (goodC (bl, bh)) from (if_pos rfl).trans rfl)
      have g44 : ((4 : Int) == 4) = true := rfl
      go_wp2_with fail
      go_loopw [7, 26] (fun v i wr => ∃ k : Nat, k ≤ 4 ∧ i = .int .i64 k ∧ LP1 w al ah bl bh v k wr) (fun _ i _ => 4 - (intOf i).toNat)
      case atStart =>
        refine ⟨0, by omega, rfl, ?_⟩
        refine ⟨World.ownsRow_nil _ _ _ _, ?_, ?_, ?_, ?_, fun j hj => ?_, ?_, ?_⟩
        · simp [go_sem]
        · simp [go_sem]
        · simp [go_sem]
        · simp [go_sem]
        rotate_left
        · go_grown
        · simp
        have h2 : j = 0 ∨ j = 1 ∨ j = 2 ∨ j = 3 := by omega
        rcases h2 with rfl | rfl | rfl | rfl <;> simp [candL, go_sem]
      case round =>
        obtain ⟨k, hk, rfl, hL⟩ := hrel
        by_cases hlt : k < 4
        · have e0 := hL.b0
          have e1 := hL.b1
          have hcell := hL.cand k hlt
          have hsn := Lib.hid (secs_snoc (bl, bh) k hlt)
          generalize (candL (bl, bh)).getD k 0 = n at hcell hsn
          by_cases h0 : n = 0
          · subst h0
            go_wp2_with fail
            go_roundw
            case rel => exact ⟨k + 1, by omega, by go_num, hL.keep (by rw [hsn.out, if_neg (show ¬ goodC (bl, bh) 0 = true by simp [goodC]), List.append_nil]; exact hL.own) (Below.refl _ _)⟩
            case measure => simp [intOf] <;> omega
          · have hne : (n != 0) = true := by simpa using h0
            rcases Bool.eq_false_or_eq_true (hasI (bl, bh) n) with hh | hh
            · have hgd := Lib.hid (show goodC (bl, bh) n = true by simp [goodC, hne, hh])
              go_wp2_with fail
              refine (itvHas_i _ _ _ _).mono ?_
              rintro e w2 ⟨rfl, hb⟩
              have hz := hb.size
              have hown := below_own hL.own hb
              have hBe : Below w.heap.size w w2 := hL.be.trans (hb.mono (by have := hL.be.size; omega))
              go_wp2_with (at_builtin; refine wpList_append_own _ rfl _ _ 38 rfl (w.heap.size + 1 + 1 + 1 + 1) 3 i0 (.int .i64 0) 1 8 Try.underlying38 hi hz0 hz1 hz2 rfl (by decide) _ _ _ rfl (hown.alloc _) ⟨w2.heap.size, 0, none⟩ 1 1 [.int .i64 n] rfl rfl ?c1 ?c2 ?c3 ?c4 ?c5 ?_)
              case c1 =>
                intro j u hj
                match j, hj with
                | 0, hj => simp at hj; subst hj; simp [Addr.add]
              case c2 => intro u hu; simp at hu; subst hu; rfl
              case c3 => have := secs_len (bl, bh) k; unfold maxLen; omega
              case c4 => have := secs_len (bl, bh) k; omega
              case c5 => have := hL.sz; simp; omega
              intro v' w3 hown' hgrow _
              have hbel : Below (w.heap.size + 1 + 1 + 1 + 1) wr w3 := (((Below.refl _ _).trans (hb.mono hL.sz)).alloc (by have := hL.sz; omega) _).grown hgrow (by have := hL.sz; simp; omega) (fun g hg => (hown.lt g hg).1)
              have hL' : LP1 w al ah bl bh v' (k + 1) w3 := hL.keep (by rw [hsn.out, if_pos hgd.out, List.length_append, List.map_append]; exact hown') hbel
              clear hown' hgrow hbel hown hBe hb
              go_wp2_with fail
              go_roundw
              case rel => first | exact ⟨k + 1, by omega, by go_num, hL'⟩ | ((repeat apply Exists.intro); exact ⟨⟨k + 1, by omega, by go_num, hL'⟩, rfl⟩)
              case measure => simp [intOf] <;> omega
            · have hgd := Lib.hid (show goodC (bl, bh) n = false by simp [goodC, hh])
              go_wp2_with fail
              refine (itvHas_i _ _ _ _).mono ?_
              rintro e w2 ⟨rfl, hb⟩
              have hL' : LP1 w al ah bl bh _ (k + 1) w2 := hL.keep (by rw [hsn.out, if_neg (by rw [hgd.out]; decide), List.append_nil]; exact below_own hL.own hb) (hb.mono hL.sz)
              clear hb
              go_wp2_with fail
              go_roundw
              case rel => first | exact ⟨k + 1, by omega, by go_num, hL'⟩ | ((repeat apply Exists.intro); exact ⟨⟨k + 1, by omega, by go_num, hL'⟩, rfl⟩)
              case measure => simp [intOf] <;> omega
        · go_wp2_with fail
          go_meet
          obtain rfl : k = 4 := by omega
          exact ⟨_, rfl, by rw [HS4.out]; exact SecsAt.of_own hL.own (secs_len _ _), hL.a0, hL.a1, hL.be⟩
    · have hs : secsL op (bl, bh) = [bl, bh] := if_neg h4
      have HS := Lib.hid hs
      have g4 : (op == 4) = false := by simpa using h4
      clear hs h4
      go_wp2_with fail
      go_meet
      refine ⟨_, rfl, ?_, by simp [go_sem, *], by simp [go_sem, *], by go_grown⟩
      rw [HS.out]
      exact ⟨_, _, rfl, by simp only [List.length_cons, List.length_nil]; omega, fun _ => ⟨_, rfl, by simp, fun j hj => by
        have h2 : j = 0 ∨ j = 1 := by simp only [List.length_cons, List.length_nil] at hj; omega
        rcases h2 with rfl | rfl <;> simp [go_sem]⟩⟩
  case rest =>
    obtain ⟨wx, rfl, ⟨A, cap, rfl, hn, hg⟩, c0, c1, hB⟩ := hcut
    generalize secsL op (bl, bh) = ns at *
    rcases Nat.eq_zero_or_pos ns.length with h0 | hpos
    · have hns : ns = [] := List.eq_nil_of_length_eq_zero h0
      subst hns
      clear hg hn h0
      go_wp2_with fail
      refine wp_loop_rounds 1 ?_
      rw [rounds_succ]
      go_wp2_with fail
      go_ret
      unfold Corners
      exact ⟨_, rfl, World.ownsRow_nil _ _ _ _, by go_grown⟩
    · obtain ⟨g, rfl, hgl, hcs⟩ := hg hpos
      have HCS := Lib.hid hcs
      clear hg hcs
      have hsz := hB.size
      go_wp2_with fail
      go_loopw [10, 44] (fun v i wr => ∃ k : Nat, k ≤ ns.length ∧ i = .int .i64 k ∧ wr.ownsRow wx.heap.size 58 2 v (2 * k) (pairV (cornL (al, ah) (ns.take k))) ∧ Below wx.heap.size wx wr) (fun _ i _ => ns.length - (intOf i).toNat)
      case atStart => exact ⟨0, by omega, rfl, World.ownsRow_nil _ _ _ _, Below.refl _ _⟩
      case round =>
        obtain ⟨k, hk, rfl, hown, hbe⟩ := hrel
        by_cases hlt : k < ns.length
        · have e0 := (hbe.cell (p := ⟨w.heap.size, 0, none⟩) (blk c0)).trans c0
          have e1 := (hbe.cell (p := ⟨w.heap.size, 1, none⟩) (blk c0)).trans c1
          have e2 := (hbe.cell (p := ⟨g, k, none⟩) hgl).trans (HCS.out k hlt)
          have hsn := Lib.hid (corn_snoc (al, ah) ns k hlt)
          have hz := hbe.size
          generalize ns.getD k 0 = n at e2 hsn
          go_wp2_with (at_builtin; refine wpList_append_own _ rfl _ _ 56 rfl wx.heap.size 58 i1 (.agg #[.int .i64 0, .int .i64 0]) 2 16 Try.underlying56 hp hy0 hy1 hy2 rfl (by decide) _ _ _ rfl (hown.alloc _) ⟨wr.heap.size, 0, none⟩ 2 2 [.int .i64 al, .int .i64 n, .int .i64 ah, .int .i64 n] rfl rfl ?c1 ?c2 ?c3 ?c4 ?c5 ?_)
          case c2 => exact ⟨rfl, rfl, rfl, rfl⟩
          case c3 => unfold maxLen; omega
          case c4 => omega
          case c5 => (try simp); omega
          intro v' w3 hown' hgrow _
          have hbel : Below wx.heap.size wx w3 := (hbe.alloc hz _).grown hgrow (by simp; omega) (fun g hg => (hown.lt g hg).1)
          have hown2 : w3.ownsRow wx.heap.size 58 2 v' (2 * (k + 1)) (pairV (cornL (al, ah) (ns.take (k + 1)))) := by rw [hsn.out]; exact hown'
          clear hown' hgrow hown hbe e0 e1 e2
          go_wp2_with fail
          go_roundw
          case rel => exact ⟨k + 1, by omega, by go_num, hown2, hbel⟩
          case measure => simp [intOf] <;> omega
        · go_wp2_with fail
          go_ret
          unfold Corners
          obtain rfl : k = ns.length := by omega
          rw [List.take_length] at hown
          exact ⟨_, rfl, hown.mono hsz, hB.trans (hbe.mono hsz)⟩
end Go.Proofs.Ytempklcflcpjaaa
