/-
  The reference's draws of states: l21State. No conditions but bounds on how far the reader has come.
-/
import Derived.Test.YtdpooiiacdfpkaaDraw4
import Derived.Test.YtdpooiiacdfpkaaAj
import Derived.Test.YtdpooiiacdfpkaaAbsIn2
import Derived.Test.YtdpooiiacdfpkaaLast
namespace Go.Proofs.Ytdpooiiacdfpkaa
set_option linter.unusedSimpArgs false
set_option linter.unusedVariables false
open Go.ChangeShapes Go.WideShapes Go.ChangeAt Go.RowKit Go.Sort

section
variable {w wr w' : World} {rb G g b : Nat} {p p' : Int} {cs : Array Value} {v : Value}
theorem But.grown {u : World} {row : Option Nat} (h : But b u w) (hg : w.grownBy w' row) (hr : ∀ k, row = some k → u.heap.size ≤ k) : But b u w' :=
  ⟨hg.os.trans h.os, hg.tape.trans h.tape, hg.output.trans h.output, Nat.le_trans h.size hg.size, fun k hk hb => (hg.block k (Nat.lt_of_lt_of_le hk h.size) (fun e => by have := hr k e.symm; omega)).trans (h.block k hk hb)⟩
theorem Rd.grown {row : Option Nat} (h : Rd w rb p) (hg : w.grownBy w' row) (hr : ∀ k, row = some k → rb < k) : Rd w' rb p :=
  h.keep fun k hk => hg.block k (by have := h.lt; omega) (fun e => by have := hr k e.symm; omega)
theorem own_but {base : Nat} {e : TypeId} {size n : Nat} {xs : List Value} (h : w.ownsRow base e size v n xs) (hb : But rb w w') (hr : rb < base) : w'.ownsRow base e size v n xs := by
  refine ⟨h.1, ?_⟩
  rcases h.2 with h | ⟨g, cap, cur, rfl, h1, hg, h2, h3, h4, h5⟩
  · exact .inl h
  · refine .inr ⟨g, cap, cur, rfl, h1, (hb.block g ?_ (by omega)).trans hg, h2, h3, h4, h5⟩
    rcases Nat.lt_or_ge g w.heap.size with h' | h'
    · exact h'
    · rw [Array.getElem?_eq_none h'] at hg; cases hg
theorem RdI.but {a : Option Addr} {len : Nat} {z : List (Int × Int)} (h : RdI w a len z) (hb : But rb w w') (hn : ∀ x, a = some x → x.block ≠ rb) : RdI w' a len z := by
  obtain ⟨hl, h | ⟨x, rfl, h⟩⟩ := h
  · exact ⟨hl, .inl h⟩
  · refine ⟨hl, .inr ⟨x, rfl, fun i hi => ?_⟩⟩
    obtain ⟨h1, h2⟩ := h i hi
    have hx := hn x rfl
    have e1 : (x.add (i * 2)).block = x.block := add_block _ _
    exact ⟨(hb.cell (World.block_lt_of_cell? w _ h1) (by rw [e1]; exact hx)).trans h1, (hb.cell (World.block_lt_of_cell? w _ h2) (by simp only []; rw [e1]; exact hx)).trans h2⟩
/-- A state that is being drawn, in a block of its own at the end of W: the reader, what is kept of W, the block. -/
structure LS (W : World) (rb : Nat) (p : Int) (cs : Array Value) (wr : World) : Prop where
  rd : Rd wr rb p
  but : But rb W wr
  st : Blk wr W.heap.size 29 cs
  hr : rb < W.heap.size
theorem LS.lt (h : LS w rb p cs wr) : w.heap.size < wr.heap.size := h.st.lt
theorem LS.next (h : LS w rb p cs wr) (hR : Rd w' rb p') (hb : But rb wr w') : LS w rb p' cs w' :=
  ⟨hR, h.but.trans hb, h.st.but hb (by have := h.hr; omega), h.hr⟩
theorem LS.drew (h : LS w rb p cs wr) : LS w rb p cs wr.drew := h.next h.rd.drew (But.refl _ _).drew
theorem LS.alloc (h : LS w rb p cs wr) (o : Obj) : LS w rb p cs (wr.alloc o) := h.next (h.rd.alloc o) ((But.refl _ _).alloc o)
theorem LS.grown {row : Option Nat} (h : LS w rb p cs wr) (hg : wr.grownBy w' row) (hr : ∀ k, row = some k → w.heap.size + 1 ≤ k) : LS w rb p cs w' :=
  ⟨h.rd.grown hg (fun k hk => by have := hr k hk; have := h.hr; omega), h.but.grown hg (fun k hk => by have := hr k hk; omega),
   (hg.block _ h.st.lt (fun e => by have := hr _ e.symm; omega)).trans h.st, h.hr⟩
theorem LS.set (h : LS w rb p cs wr) (i : Nat) (u : Value) : LS w rb p (cs.setIfInBounds i u) (wr.setCell ⟨w.heap.size, i, none⟩ u) :=
  ⟨h.rd.setCell (by have := h.hr; simp only []; omega) u, h.but.setCell (.inr (Nat.le_refl _)) u, h.st.set_ i u, h.hr⟩
theorem LS.far (h : LS w rb p cs wr) {q : Addr} (hq : w.heap.size < q.block) (u : Value) : LS w rb p cs (wr.setCell q u) :=
  ⟨h.rd.setCell (by have := h.hr; omega) u, h.but.setCell (.inr (by omega)) u, h.st.far (by omega) u, h.hr⟩
/-- What is behind the result's stores. -/
theorem LS.done {u : World} {r : Nat} (h : LS w rb p cs wr) (hu : But rb u w) (h1 : rb < r) (h2 : u.heap.size ≤ r) (u0 u1 u2 u3 : Value) : Rd ((((wr.setCell ⟨r, 0, none⟩ u0).setCell ⟨r, 1, none⟩ u1).setCell ⟨r, 2, none⟩ u2).setCell ⟨r, 3, none⟩ u3) rb p ∧ But rb u ((((wr.setCell ⟨r, 0, none⟩ u0).setCell ⟨r, 1, none⟩ u1).setCell ⟨r, 2, none⟩ u2).setCell ⟨r, 3, none⟩ u3) :=
  ⟨(((h.rd.setCell h1 u0).setCell h1 u1).setCell h1 u2).setCell h1 u3, ((((hu.trans h.but).setCell (.inr h2) u0).setCell (.inr h2) u1).setCell (.inr h2) u2).setCell (.inr h2) u3⟩
theorem Blk.drew' {t : TypeId} (h : Blk w g t cs) : Blk w.drew g t cs := h.below (Below.refl _ _).drew
theorem OwnB.drew' {len : Nat} {z : List (Int × Int)} (h : OwnB w g len z) : OwnB w.drew g len z := h.below (Below.refl _ _).drew
theorem OwnB.put {len q : Nat} {z : List (Int × Int)} (h : OwnB w g len z) (hq : q < len) (lo hi : Int) : OwnB ((w.setCell ⟨g, q * 2, none⟩ (.int .i64 lo)).setCell ⟨g, q * 2 + 1, none⟩ (.int .i64 hi)) g len (z.set q (lo, hi)) := by
  obtain ⟨cs, hb, hl, hs, hc⟩ := h
  refine ⟨_, (hb.set_ _ _).set_ _ _, by simp [hl], by simp [hs], fun i hi' => ?_⟩
  obtain ⟨h1, h2⟩ := hc i hi'
  by_cases e : q = i
  · subst e
    simp only [List.getD_eq_getElem?_getD, List.getElem?_set_self (show q < z.length by omega), Option.getD_some]
    constructor
    · rw [Array.getElem?_setIfInBounds_ne (by omega), Array.getElem?_setIfInBounds_self_of_lt (by omega)]
    · rw [Array.getElem?_setIfInBounds_self_of_lt (by simp only [Array.size_setIfInBounds]; omega)]
  · simp only [List.getD_eq_getElem?_getD, List.getElem?_set_ne e] at h1 h2 ⊢
    constructor
    · rw [Array.getElem?_setIfInBounds_ne (by omega), Array.getElem?_setIfInBounds_ne (by omega)]; exact h1
    · rw [Array.getElem?_setIfInBounds_ne (by omega), Array.getElem?_setIfInBounds_ne (by omega)]; exact h2
theorem OwnB.cut {len n : Nat} {z : List (Int × Int)} (h : OwnB w g len z) (hn : n ≤ len) : OwnB w g n (z.take n) := by
  obtain ⟨cs, hb, hl, hs, hc⟩ := h
  refine ⟨cs, hb, by simp; omega, by omega, fun i hi => ?_⟩
  obtain ⟨h1, h2⟩ := hc i (by omega)
  simp only [List.getD_eq_getElem?_getD, List.getElem?_take_of_lt hi] at h1 h2 ⊢
  exact ⟨h1, h2⟩
theorem OwnB.at_ {len q : Nat} {z : List (Int × Int)} (h : OwnB w g len z) (hq : q < len) : ∃ u0 u1, w.cell? ⟨g, q * 2, none⟩ = some u0 ∧ w.cell? ⟨g, q * 2 + 1, none⟩ = some u1 ∧ w.frozen? ⟨g, q * 2, none⟩ = false ∧ w.frozen? ⟨g, q * 2 + 1, none⟩ = false := by
  obtain ⟨cs, hb, hl, hs, hc⟩ := h
  obtain ⟨h1, h2⟩ := hc q hq
  exact ⟨_, _, (hb.cell _).trans h1, (hb.cell _).trans h2, hb.frozen _, hb.frozen _⟩
end
/-- What a draw of a state leaves. -/
def DrawSt (rb : Nat) (p m : Int) (w : World) (e : Ending) (w' : World) : Prop :=
  ∃ (on : Bool) (a : Option Addr) (len cap : Nat) (lo hi : Int) (z : List (Int × Int)) (p' : Int), e = .returned (.agg #[.bool on, .slice a len cap, .int .i64 lo, .int .i64 hi]) ∧ Hid (RdI w' a len z) ∧ AtHead a len cap ∧ len ≤ 4 ∧ (∀ x, a = some x → w.heap.size ≤ x.block) ∧ p ≤ p' ∧ p' ≤ p + m ∧ Rd w' rb p' ∧ But rb w w'
set_option maxRecDepth 100000 in
set_option maxHeartbeats 8000000 in
theorem l21State_s (rb : Nat) (p n : Int) (w : World) (h : Rd w rb p) (hp : p ≤ 999999600) (hn : I64 n) :
    Calls Try.prog 30 #[.pointer (some ⟨rb, 0, none⟩), .int .i64 n] w (DrawSt rb p 104 w) := by
  obtain ⟨i0, hi0', hz0', hz1', hz2'⟩ := info_parts info_itv2
  have hrb := h.lt
  go_enter Try.func30, Try.ntmps30
  go_wp2_with fail
  refine (odd_s rb p 9 _ (h.alloc _) (by omega) (by unfold I64; omega)).mono ?_
  rintro e w1 ⟨x, p1, rfl, hq1, hq2, hR1, hb1⟩
  have kC : Blk w1 w.heap.size 29 #[.bool false, .slice none 0 0, .int .i64 0, .int .i64 0] := (Blk.new w _ _).but hb1 (by omega)
  have hU1 : But rb w w1 := ((But.refl rb w).alloc _).trans hb1
  cases x
  · clear hb1 h
    have hz1 := hU1.size
    have hzC := kC.lt
    go_wp2_with fail
    refine (l20Itv_s rb p1 99999 _ hR1 (by omega) (by unfold I64; omega)).mono ?_
    rintro e w2 ⟨lo, hi, p2, rfl, _, _, hq3, hq4, hR2, hb2⟩
    have kC2 := kC.but hb2 (by omega)
    have hU2 := hU1.trans hb2
    have hzC2 := kC2.lt
    clear hb2 kC hU1 hR1
    have hL0 : LS w2 rb p2 #[.bool true, .slice none 0 0, .int .i64 lo, .int .i64 hi] (w2.alloc (.cells #[.bool true, .slice none 0 0, .int .i64 lo, .int .i64 hi] 29)) := ⟨hR2.alloc _, (But.refl _ _).alloc _, Blk.new _ _ _, by omega⟩
    have HC := Lib.hid kC2
    have HU := Lib.hid hU2
    clear kC2 hU2 hR2
    go_wp2_with fail
    go_loopw [6] (fun i wr => ∃ (k : Nat) (v : Value) (z : List (Int × Int)) (p3 : Int), k ≤ 4 ∧ i = .int .i64 k ∧ z.length = k ∧ p2 ≤ p3 ∧ p3 ≤ p2 + 20 * (k : Int) ∧ Hid (LS w2 rb p3 #[.bool true, v, .int .i64 lo, .int .i64 hi] wr ∧ wr.ownsRow (w2.heap.size + 1) 27 2 v k (cellsI z))) (fun i _ => 4 - (intOf i).toNat)
    case atStart => exact ⟨0, _, [], p2, by omega, rfl, rfl, by omega, by omega, Lib.hid ⟨hL0, World.ownsRow_nil _ _ _ _⟩⟩
    case round =>
      clear hL0
      obtain ⟨k, v, z, p3, hk, rfl, hzl, hq5, hq6, hH⟩ := hrel
      by_cases hlt : k < 4
      · have hlk : (k : Int) < 4 := by omega
        have hz := hH.out.1.lt
        have hHeld := hH.out.1.st.drew'.cell 1
        go_wp2_with fail
        refine last_begin (fun w' => w'.cell? ⟨w2.heap.size, 1, none⟩ = some v) 7 (by kernel_rfl) ?_
        refine last_take (i := 0) (v := ?v_0) rfl (by kernel_rfl) (by kernel_rfl) (by kernel_rfl) (by kernel_rfl) (by decide) (fun _ _ _ h => h) (by rfl) ?y_0 hHeld ?r_0
        case y_0 => (intro w' hSw; go_simp); all_goals (with_reducible rfl)
        case r_0 =>
        try simp only [Act.put, List.setIfInBounds_toArray, List.set_cons_zero, List.set_cons_succ]
        refine last_take (i := 1) (v := ?v_1) rfl (by kernel_rfl) (by kernel_rfl) (by kernel_rfl) (by kernel_rfl) (by decide) (fun _ _ _ h => h) (by rfl) ?y_1 hHeld ?r_1
        case y_1 => (intro w' hSw; go_simp); all_goals (with_reducible rfl)
        case r_1 =>
        try simp only [Act.put, List.setIfInBounds_toArray, List.set_cons_zero, List.set_cons_succ]
        refine last_take (i := 2) (v := ?v_2) rfl (by kernel_rfl) (by kernel_rfl) (by kernel_rfl) (by kernel_rfl) (by decide) (fun _ _ _ h => h) (by rfl) ?y_2 hHeld ?r_2
        case y_2 => (intro w' hSw; go_simp); all_goals (with_reducible rfl)
        case r_2 =>
        try simp only [Act.put, List.setIfInBounds_toArray, List.set_cons_zero, List.set_cons_succ]
        refine last_one (i := 3) rfl (by kernel_rfl) (by decide) (fun K hK => ?_)
        go_simp
        refine (l20Itv_s rb p3 99999 _ hH.out.1.drew.rd (by omega) (by unfold I64; omega)).mono ?_
        rintro e w4 ⟨vl, vh, p4, rfl, _, _, hq7, hq8, hR4, hb4⟩
        have hj4 := hH.out.1.drew.next hR4 hb4
        have ho4 := own_but (below_own hH.out.2 ((Below.refl _ _).drew)) hb4 (by have := hj4.hr; omega)
        have hz4 := hj4.lt
        clear hb4 hR4
        try go_wp2_with fail
        refine hK.out _ _ (hj4.st.cell 1) ?_
        clear hK K hHeld
        try simp only [Act.put, List.setIfInBounds_toArray, List.set_cons_zero, List.set_cons_succ]
        refine last_one (i := 4) rfl (by kernel_rfl) (by decide) (fun K hK => ?_)
        go_simp
        have hj5 := hj4.alloc (.cells #[Value.int .i64 vl, Value.int .i64 vh] 27)
        refine hK.out _ _ (hj5.st.cell 1) ?_
        clear hK K
        try simp only [Act.put, List.setIfInBounds_toArray, List.set_cons_zero, List.set_cons_succ]
        refine last_one (i := 5) rfl (by kernel_rfl) (by decide) (fun K hK => ?_)
        refine step_append_lies _ (by rfl) _ _ _ (by rfl) (w2.heap.size + 1) 27 i0 _ 2 16 Try.underlying25 hi0' hz0' hz1' hz2' rfl (by omega) v k _ (by rfl) (ho4.alloc _) ⟨w4.heap.size, 0, none⟩ 1 1 [.int .i64 vl, .int .i64 vh] (by rfl) (by rfl) (World.news_of_block (cs := #[.int .i64 vl, .int .i64 vh]) (t := 27) (fr := (0, 0)) (heap_alloc_new w4 _)) (by simp [Value.oneCell']) (by omega) (by unfold maxLen; omega) (by omega) (by simp only [World.size_alloc]; omega) (w4.heap.size + 1) (by simp) ?_
        intro gg cp w5 hown1 hgrow hat hlt'
        have hj6 := hj5.grown hgrow (fun g hg => (ho4.lt g hg).1)
        have hz6 := hj6.lt
        obtain ⟨g0, g1, g2, g3⟩ := hj6.st.four
        obtain ⟨v0, v1, v2, v3⟩ := hj6.st.free
        have hown2 := hown1
        rw [← show cellsI (z ++ [(vl, vh)]) = cellsI z ++ [Value.int .i64 vl, Value.int .i64 vh] from cellsI_snoc _ _] at hown2
        have HW := Lib.hid hown2
        clear hown1 hown2 hgrow hat ho4 hj4 hj5
        refine hK.out _ _ (hj6.st.cell 1) ?_
        clear hK K
        try simp only [Act.put, List.setIfInBounds_toArray, List.set_cons_zero, List.set_cons_succ]
        refine last_one (i := 6) rfl (by kernel_rfl) (by decide) (fun K hK => ?_)
        go_simp
        refine hK.out _ _ (hj6.st.cell 1) ?_
        clear hK K
        try simp only [Act.put, List.setIfInBounds_toArray, List.set_cons_zero, List.set_cons_succ]
        refine last_last rfl (by kernel_rfl) (by kernel_rfl) (fun K hK => ?_)
        go_simp
        refine hK.out _ _ ?_
        clear hK K
        try simp only [Act.put, List.setIfInBounds_toArray, List.set_cons_zero, List.set_cons_succ]
        go_wp2_with fail
        go_roundw
        case rel => exact ⟨k + 1, _, z ++ [(vl, vh)], p4, by omega, by go_num, by simp [hzl], by omega, by omega, Lib.hid ⟨hj6.set 1 _, own_below HW.out (by simp only []; omega) _⟩⟩
        case measure => simp [intOf] <;> omega
      · obtain rfl : k = 4 := by omega
        obtain ⟨hj6, ho⟩ := hH.out
        obtain ⟨gg, cp, rfl, hg1, hg2⟩ := ho.form (by omega)
        have hcp : 4 ≤ cp := own_cap ho
        have HO := Lib.hid (own_of ho hzl (by omega))
        have HL := Lib.hid hj6
        clear hH ho hj6
        have stg : True := trivial
        go_wp2_with fail
        refine (odd_s rb p3 n _ HL.out.rd (by omega) hn).mono ?_
        rintro e w3 ⟨x, p4, rfl, hq7, hq8, hR3, hb3⟩
        have hj := HL.out.next hR3 hb3
        have hO := HO.out.but hb3 (by have := hj.hr; omega)
        clear hb3 hR3 HL HO
        have hz3 := hj.lt
        have hgl := hO.lt
        cases x
        · obtain ⟨g0, g1, g2, g3⟩ := hj.st.four
          obtain ⟨v0, v1, v2, v3⟩ := hj.st.free
          have hC := HC.out.but hj.but (by omega)
          obtain ⟨r0, r1, r2, r3⟩ := hC.four
          obtain ⟨f0, f1, f2, f3⟩ := hC.free
          clear hC
          have HJ := Lib.hid hj
          have HO := Lib.hid hO
          clear hj hO
          go_wp2_with fail
          refine bodyPost_ret (by simp [results, Try.results30, go_sem, *]; try rfl) rfl ?_
          unfold DrawSt
          have hd := (HJ.out).done (r := w.heap.size) HU.out (by omega) (by omega) (.bool true) (.slice (some ⟨gg, 0, none⟩) 4 cp) (.int .i64 lo) (.int .i64 hi)
          exact ⟨true, some ⟨gg, 0, none⟩, 4, cp, lo, hi, z, p4, rfl, Lib.hid ((((HO.out.far (by simp only []; omega) _).far (by simp only []; omega) _).far (by simp only []; omega) _).far (by simp only []; omega) _).rd, ⟨by omega, .inr ⟨gg, rfl⟩⟩, by omega, (fun x hx => by cases hx; simp only []; omega), by omega, by omega, hd.1, hd.2⟩
        · have HL := Lib.hid hj
          have HO := Lib.hid hO
          clear hj hO
          have stg2 : True := trivial
          go_wp2_with fail
          refine (pick_s rb p4 4 _ HL.out.rd (by omega) (by unfold I64; omega)).mono ?_
          rintro e w4 ⟨x, p5, rfl, hx, hq9, hq10, hR4, hb4⟩
          have hj := HL.out.next hR4 hb4
          have hO := HO.out.but hb4 (by have := hj.hr; omega)
          clear hb4 hR4 HL HO
          have hz4 := hj.lt
          have hgl4 := hO.lt
          rcases lt4 hx with rfl | rfl | rfl | rfl
          · obtain ⟨g0, g1, g2, g3⟩ := hj.st.four
            obtain ⟨v0, v1, v2, v3⟩ := hj.st.free
            have hC := HC.out.but hj.but (by omega)
            obtain ⟨r0, r1, r2, r3⟩ := hC.four
            obtain ⟨f0, f1, f2, f3⟩ := hC.free
            clear hC
            have HJ := Lib.hid hj
            have HO := Lib.hid hO
            clear hj hO
            clear hx
            go_wp2_with fail
            refine bodyPost_ret (by simp [results, Try.results30, go_sem, *]; try rfl) rfl ?_
            unfold DrawSt
            have hd := (HJ.out.set 0 (.bool false)).done (r := w.heap.size) HU.out (by omega) (by omega) (.bool false) (.slice (some ⟨gg, 0, none⟩) 4 cp) (.int .i64 lo) (.int .i64 hi)
            exact ⟨false, some ⟨gg, 0, none⟩, 4, cp, lo, hi, z, p5, rfl, Lib.hid (((((HO.out.far (by simp only []; omega) _).far (by simp only []; omega) _).far (by simp only []; omega) _).far (by simp only []; omega) _).far (by simp only []; omega) _).rd, ⟨by omega, .inr ⟨gg, rfl⟩⟩, by omega, (fun x hx => by cases hx; simp only []; omega), by omega, by omega, hd.1, hd.2⟩
          · obtain ⟨g0, g1, g2, g3⟩ := hj.st.four
            obtain ⟨v0, v1, v2, v3⟩ := hj.st.free
            have hC := HC.out.but hj.but (by omega)
            obtain ⟨r0, r1, r2, r3⟩ := hC.four
            obtain ⟨f0, f1, f2, f3⟩ := hC.free
            clear hC
            have HJ := Lib.hid hj
            have HO := Lib.hid hO
            clear hj hO
            clear hx
            go_wp2_with fail
            go_region_held3 (fun w' => w'.cell? ⟨w2.heap.size, 1, none⟩ = some (.slice (some ⟨gg, 0, none⟩) 4 cp)) (first | with_reducible assumption | ((with_reducible apply keep_drew); with_reducible assumption) | ((repeat (with_reducible refine keep_set _ (by (simp only []; omega)) ?_)); with_reducible assumption)) ((go_at_call 27; refine (pick_s rb p5 4 _ HJ.out.drew.rd (by omega) (by unfold I64; omega)).mono ?_; rintro e w5 ⟨x, p6, rfl, hx, hq11, hq12, hR5, hb5⟩; have hj := HJ.out.drew.next hR5 hb5; have hO := HO.out.drew'.but hb5 (by have := hj.hr; omega); obtain ⟨q, rfl⟩ := Int.eq_ofNat_of_zero_le hx.1; have hq := hx.2.1 (by omega); have hq0 : q < 4 := (by omega); have hq1 : (0 : Int) ≤ (q : Int) := (by omega); obtain ⟨u0, u1, a0, a1, b0, b1⟩ := hO.at_ hq0; clear g0 g1 g2 g3 v0 v1 v2 v3 r0 r1 r2 r3 f0 f1 f2 f3 hx hb5 hR5; obtain ⟨g0, g1, g2, g3⟩ := hj.st.four; have hC := HC.out.but hj.but (by omega); obtain ⟨r0, r1, r2, r3⟩ := hC.four; obtain ⟨f0, f1, f2, f3⟩ := hC.free; clear hC; have HJ5 := Lib.hid hj; have HO5 := Lib.hid hO; have hz5 := hj.lt; have hgl5 := hO.lt; clear hj hO))
            go_wp2_with fail
            refine bodyPost_ret (by simp [results, Try.results30, go_sem, *]; try rfl) rfl ?_
            unfold DrawSt
            have hd := ((HJ5.out.far (q := ⟨gg, q * 2, none⟩) (by simp only []; omega) (.int .i64 1)).far (q := ⟨gg, q * 2 + 1, none⟩) (by simp only []; omega) (.int .i64 0)).done (r := w.heap.size) HU.out (by omega) (by omega) (.bool true) (.slice (some ⟨gg, 0, none⟩) 4 cp) (.int .i64 lo) (.int .i64 hi)
            exact ⟨true, some ⟨gg, 0, none⟩, 4, cp, lo, hi, z.set q (1, 0), p6, rfl, Lib.hid (((((HO5.out.put hq0 1 0).far (by simp only []; omega) _).far (by simp only []; omega) _).far (by simp only []; omega) _).far (by simp only []; omega) _).rd, ⟨by omega, .inr ⟨gg, rfl⟩⟩, by omega, (fun x hx => by cases hx; simp only []; omega), by omega, by omega, hd.1, hd.2⟩
          · obtain ⟨g0, g1, g2, g3⟩ := hj.st.four
            obtain ⟨v0, v1, v2, v3⟩ := hj.st.free
            have hC := HC.out.but hj.but (by omega)
            obtain ⟨r0, r1, r2, r3⟩ := hC.four
            obtain ⟨f0, f1, f2, f3⟩ := hC.free
            clear hC
            have HJ := Lib.hid hj
            have HO := Lib.hid hO
            clear hj hO
            clear hx
            go_wp2_with fail
            refine bodyPost_ret (by simp [results, Try.results30, go_sem, *]; try rfl) rfl ?_
            unfold DrawSt
            have hd := ((HJ.out.set 2 (.int .i64 5)).set 3 (.int .i64 32768)).done (r := w.heap.size) HU.out (by omega) (by omega) (.bool true) (.slice (some ⟨gg, 0, none⟩) 4 cp) (.int .i64 5) (.int .i64 32768)
            exact ⟨true, some ⟨gg, 0, none⟩, 4, cp, 5, 32768, z, p5, rfl, Lib.hid ((((((HO.out.far (by simp only []; omega) _).far (by simp only []; omega) _).far (by simp only []; omega) _).far (by simp only []; omega) _).far (by simp only []; omega) _).far (by simp only []; omega) _).rd, ⟨by omega, .inr ⟨gg, rfl⟩⟩, by omega, (fun x hx => by cases hx; simp only []; omega), by omega, by omega, hd.1, hd.2⟩
          · obtain ⟨g0, g1, g2, g3⟩ := hj.st.four
            obtain ⟨v0, v1, v2, v3⟩ := hj.st.free
            have hC := HC.out.but hj.but (by omega)
            obtain ⟨r0, r1, r2, r3⟩ := hC.four
            obtain ⟨f0, f1, f2, f3⟩ := hC.free
            clear hC
            have HJ := Lib.hid hj
            have HO := Lib.hid hO
            clear hj hO
            clear hx
            go_wp2_with fail
            refine bodyPost_ret (by simp [results, Try.results30, go_sem, *]; try rfl) rfl ?_
            unfold DrawSt
            have hd := (HJ.out.set 1 (.slice (some ⟨gg, 0, none⟩) 3 cp)).done (r := w.heap.size) HU.out (by omega) (by omega) (.bool true) (.slice (some ⟨gg, 0, none⟩) 3 cp) (.int .i64 lo) (.int .i64 hi)
            exact ⟨true, some ⟨gg, 0, none⟩, 3, cp, lo, hi, z.take 3, p5, rfl, Lib.hid ((((((HO.out.cut (n := 3) (by omega)).far (by simp only []; omega) _).far (by simp only []; omega) _).far (by simp only []; omega) _).far (by simp only []; omega) _).far (by simp only []; omega) _).rd, ⟨by omega, .inr ⟨gg, rfl⟩⟩, by omega, (fun x hx => by cases hx; simp only []; omega), by omega, by omega, hd.1, hd.2⟩
  · have hz1 := hU1.size
    have hzC := kC.lt
    obtain ⟨r0, r1, r2, r3⟩ := kC.four
    obtain ⟨f0, f1, f2, f3⟩ := kC.free
    clear hb1 h kC
    go_wp2_with fail
    refine bodyPost_ret (by simp [results, Try.results30, go_sem, *]; try rfl) rfl ?_
    unfold DrawSt
    exact ⟨false, none, 0, 0, 0, 0, [], p1, rfl, Lib.hid ⟨rfl, .inl rfl⟩, ⟨by omega, .inl rfl⟩, by omega, (fun x hx => by cases hx), by omega, by omega, (((hR1.setCell (by simp only []; omega) _).setCell (by simp only []; omega) _).setCell (by simp only []; omega) _).setCell (by simp only []; omega) _, (((hU1.setCell (.inr (by simp only []; omega)) _).setCell (.inr (by simp only []; omega)) _).setCell (.inr (by simp only []; omega)) _).setCell (.inr (by simp only []; omega)) _⟩
end Go.Proofs.Ytdpooiiacdfpkaa
