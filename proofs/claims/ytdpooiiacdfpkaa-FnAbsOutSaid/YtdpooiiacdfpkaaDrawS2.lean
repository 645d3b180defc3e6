/-
  The reference's draws of states, on: l21Within. No conditions but bounds on how far the reader has come, and that the state is ok.
-/
import Derived.Test.YtdpooiiacdfpkaaDrawS
import Derived.Test.YtdpooiiacdfpkaaAv
namespace Go.Proofs.Ytdpooiiacdfpkaa
set_option linter.unusedSimpArgs false
set_option linter.unusedVariables false
open Go.ChangeShapes Go.WideShapes Go.ChangeAt Go.RowKit Go.Sort

set_option maxRecDepth 100000 in
set_option maxHeartbeats 8000000 in
theorem l21Within_s (rb : Nat) (p : Int) (on : Bool) (a : Option Addr) (len cap : Nat) (sl su : Int) (zs : List (Int × Int)) (w : World) (h : Rd w rb p) (hp : p ≤ 999999600) (hz : RdI w a len zs) (ha : AtHead a len cap) (hab : ∀ x, a = some x → x.block ≠ rb) (hok : St.ok ⟨on, sl, su, zs⟩ = true) :
    Calls Try.prog 64 #[.pointer (some ⟨rb, 0, none⟩), .agg #[.bool on, .slice a len cap, .int .i64 sl, .int .i64 su]] w (DrawSt rb p 104 w) := by
  obtain ⟨i0, hi0', hz0', hz1', hz2'⟩ := info_parts info_itv2
  have hrb := h.lt
  cases on
  · go_enter Try.func64, Try.ntmps64
    have hR1 := (h.alloc (.cells #[.bool false, .slice a len cap, .int .i64 sl, .int .i64 su] 29)).alloc (.cells #[.bool false, .slice none 0 0, .int .i64 0, .int .i64 0] 29)
    have hU1 := ((But.refl rb w).alloc (.cells #[.bool false, .slice a len cap, .int .i64 sl, .int .i64 su] 29)).alloc (.cells #[.bool false, .slice none 0 0, .int .i64 0, .int .i64 0] 29)
    go_wp2_with fail
    refine bodyPost_ret (by simp [results, Try.results64, go_sem, *]; try rfl) rfl ?_
    unfold DrawSt
    exact ⟨false, none, 0, 0, 0, 0, [], p, rfl, Lib.hid ⟨rfl, .inl rfl⟩, ⟨by omega, .inl rfl⟩, by omega, (fun x hx => by cases hx), by omega, by omega, hR1, hU1⟩
  · obtain ⟨h4, okc, okv⟩ := ok_parts hok
    obtain rfl : len = 4 := hz.1.symm.trans h4
    obtain ⟨ga, rfl⟩ : ∃ g, a = some ⟨g, 0, none⟩ := ha.2.resolve_left (by omega)
    have hgr : ga ≠ rb := hab _ rfl
    have HZ := Lib.hid hz
    have HV := Lib.hid okv
    have kc := (okI_iff _).1 okc
    simp only at kc
    clear ha hab hok okv okc hz
    go_enter Try.func64, Try.ntmps64
    go_wp2_with fail
    refine (odd_s rb p 12 _ ((h.alloc _).alloc _) (by omega) (by unfold I64; omega)).mono ?_
    rintro e w1 ⟨x, p1, rfl, hq1, hq2, hR1, hb1⟩
    have kC : Blk w1 (w.heap.size + 1) 29 #[.bool false, .slice none 0 0, .int .i64 0, .int .i64 0] := (Blk.new_at (by simp only [World.size_alloc])).but hb1 (by omega)
    have kA : Blk w1 w.heap.size 29 #[.bool true, .slice (some ⟨ga, 0, none⟩) 4 cap, .int .i64 sl, .int .i64 su] := ((Blk.new w _ _).alloc _).but hb1 (by omega)
    have hU1 : But rb w w1 := (((But.refl rb w).alloc _).alloc _).trans hb1
    cases x
    · clear hb1 h
      have hz1 := hU1.size
      have hzC := kC.lt
      obtain ⟨c0, c1, c2, c3⟩ := kA.four
      go_wp2_with fail
      refine (l20Inner_s rb p1 sl su _ hR1 (by omega) kc).mono ?_
      rintro e w2 ⟨lo, hi, p2, rfl, _, _, hq3, hq4, hR2, hb2⟩
      have kC2 := kC.but hb2 (by omega)
      have kA2 := kA.but hb2 (by omega)
      have hU2 := hU1.trans hb2
      have hzC2 := kC2.lt
      clear hb2 kC kA hU1 hR1 c0 c1 c2 c3
      have hL0 : LS w2 rb p2 #[.bool true, .slice none 0 0, .int .i64 lo, .int .i64 hi] (w2.alloc (.cells #[.bool true, .slice none 0 0, .int .i64 lo, .int .i64 hi] 29)) := ⟨hR2.alloc _, (But.refl _ _).alloc _, Blk.new _ _ _, by omega⟩
      have HC := Lib.hid kC2
      have HA := Lib.hid kA2
      have HU := Lib.hid hU2
      have HZ2 := Lib.hid (HZ.out.but hU2 (fun x hx => by cases hx; exact hgr))
      clear kC2 kA2 hU2 hR2 HZ
      go_wp2_with fail
      go_loopw [6] (fun i wr => ∃ (k : Nat) (v : Value) (z : List (Int × Int)) (p3 : Int), k ≤ 4 ∧ i = .int .i64 k ∧ z.length = k ∧ p2 ≤ p3 ∧ p3 ≤ p2 + 20 * (k : Int) ∧ Hid (LS w2 rb p3 #[.bool true, v, .int .i64 lo, .int .i64 hi] wr ∧ wr.ownsRow (w2.heap.size + 1) 27 2 v k (cellsI z))) (fun i _ => 4 - (intOf i).toNat)
      case atStart => exact ⟨0, _, [], p2, by omega, rfl, rfl, by omega, by omega, Lib.hid ⟨hL0, World.ownsRow_nil _ _ _ _⟩⟩
      case round =>
        clear hL0
        obtain ⟨k, v, z, p3, hk, rfl, hzl, hq5, hq6, hH⟩ := hrel
        by_cases hlt : k < 4
        · have hlk : (k : Int) < 4 := by omega
          have hk0 : (0 : Int) ≤ (k : Int) := by omega
          have hz := hH.out.1.lt
          obtain ⟨x, hx, hxx⟩ := rd_some HZ2.out (by omega)
          obtain rfl := Option.some.inj hx
          obtain ⟨q0, q1⟩ := hxx k hlt
          have kv := (okI_iff _).1 (HV.out k hlt)
          obtain ⟨⟨l0, u0⟩, e0⟩ : ∃ q, q = zs.getD k (0, 0) := ⟨_, rfl⟩
          rw [← e0] at q0 q1 kv
          rw [add_none, Nat.zero_add] at q0 q1
          simp only at q0 q1 kv
          have hQ : ∀ (cs : Array Value) (p' : Int) (wr : World), LS w2 rb p' cs wr → wr.cell? ⟨w.heap.size, 1, none⟩ = some (.slice (some ⟨ga, 0, none⟩) 4 cap) ∧ wr.cell? ⟨ga, k * 2, none⟩ = some (.int .i64 l0) ∧ wr.cell? ⟨ga, k * 2 + 1, none⟩ = some (.int .i64 u0) ∧ wr.cell? ⟨w2.heap.size, 1, none⟩ = cs[1]? := fun cs p' wr hl =>
            ⟨(HA.out.but hl.but (by omega)).cell 1, (hl.but.cell (World.block_lt_of_cell? _ _ q0) hgr).trans q0, (hl.but.cell (World.block_lt_of_cell? _ _ q1) hgr).trans q1, hl.st.cell 1⟩
          have HQ := Lib.hid hQ
          clear hx hxx q0 q1 e0 hQ
          have hHeld := HQ.out _ _ _ hH.out.1.drew
          go_wp2_with fail
          refine last_begin (fun w' => w'.cell? ⟨w.heap.size, 1, none⟩ = some (.slice (some ⟨ga, 0, none⟩) 4 cap) ∧ w'.cell? ⟨ga, k * 2, none⟩ = some (.int .i64 l0) ∧ w'.cell? ⟨ga, k * 2 + 1, none⟩ = some (.int .i64 u0) ∧ w'.cell? ⟨w2.heap.size, 1, none⟩ = some v) 12 (by kernel_rfl) ?_
          refine last_take (i := 0) (v := ?v_0) rfl (by kernel_rfl) (by kernel_rfl) (by kernel_rfl) (by kernel_rfl) (by decide) (fun _ _ _ h => h) (by rfl) ?y_0 hHeld ?r_0
          case y_0 => (intro w' hSw; go_simp); all_goals (with_reducible rfl)
          case r_0 =>
          try simp only [Act.put, List.setIfInBounds_toArray, List.set_cons_zero, List.set_cons_succ]
          refine last_take (i := 1) (v := ?v_1) rfl (by kernel_rfl) (by kernel_rfl) (by kernel_rfl) (by kernel_rfl) (by decide) (fun _ _ _ h => h) (by rfl) ?y_1 hHeld ?r_1
          case y_1 => (intro w' hSw; go_simp); all_goals (with_reducible rfl)
          case r_1 =>
          try simp only [Act.put, List.setIfInBounds_toArray, List.set_cons_zero, List.set_cons_succ]
          refine last_take (i := 2) (v := ?v_2) rfl (by kernel_rfl) (by kernel_rfl) (by kernel_rfl) (by kernel_rfl) (by decide) (fun _ _ _ h => h) (by rfl) ?y_2 hHeld ?r_2
          case y_2 => (intro w' hSw; go_simp); all_goals (with_reducible rfl)
          case r_2 =>
          try simp only [Act.put, List.setIfInBounds_toArray, List.set_cons_zero, List.set_cons_succ]
          refine last_take (i := 3) (v := ?v_3) rfl (by kernel_rfl) (by kernel_rfl) (by kernel_rfl) (by kernel_rfl) (by decide) (fun _ _ _ h => h) (by rfl) ?y_3 hHeld ?r_3
          case y_3 => (intro w' hSw; go_simp); all_goals (with_reducible rfl)
          case r_3 =>
          try simp only [Act.put, List.setIfInBounds_toArray, List.set_cons_zero, List.set_cons_succ]
          refine last_take (i := 4) (v := ?v_4) rfl (by kernel_rfl) (by kernel_rfl) (by kernel_rfl) (by kernel_rfl) (by decide) (fun _ _ _ h => h) (by rfl) ?y_4 hHeld ?r_4
          case y_4 => (intro w' hSw; go_simp); all_goals (with_reducible rfl)
          case r_4 =>
          try simp only [Act.put, List.setIfInBounds_toArray, List.set_cons_zero, List.set_cons_succ]
          refine last_take (i := 5) (v := ?v_5) rfl (by kernel_rfl) (by kernel_rfl) (by kernel_rfl) (by kernel_rfl) (by decide) (fun _ _ _ h => h) (by rfl) ?y_5 hHeld ?r_5
          case y_5 => (intro w' hSw; go_simp); all_goals (with_reducible rfl)
          case r_5 =>
          try simp only [Act.put, List.setIfInBounds_toArray, List.set_cons_zero, List.set_cons_succ]
          refine last_take (i := 6) (v := ?v_6) rfl (by kernel_rfl) (by kernel_rfl) (by kernel_rfl) (by kernel_rfl) (by decide) (fun _ _ _ h => h) (by rfl) ?y_6 hHeld ?r_6
          case y_6 => (intro w' hSw; go_simp); all_goals (with_reducible rfl)
          case r_6 =>
          try simp only [Act.put, List.setIfInBounds_toArray, List.set_cons_zero, List.set_cons_succ]
          refine last_take (i := 7) (v := ?v_7) rfl (by kernel_rfl) (by kernel_rfl) (by kernel_rfl) (by kernel_rfl) (by decide) (fun _ _ _ h => h) (by rfl) ?y_7 hHeld ?r_7
          case y_7 => (intro w' hSw; go_simp); all_goals (with_reducible rfl)
          case r_7 =>
          try simp only [Act.put, List.setIfInBounds_toArray, List.set_cons_zero, List.set_cons_succ]
          refine last_one (i := 8) rfl (by kernel_rfl) (by decide) (fun K hK => ?_)
          go_simp
          refine (l20Inner_s rb p3 l0 u0 _ hH.out.1.drew.rd (by omega) kv).mono ?_
          rintro e w4 ⟨vl, vh, p4, rfl, _, _, hq7, hq8, hR4, hb4⟩
          have hj4 := hH.out.1.drew.next hR4 hb4
          have ho4 := own_but (below_own hH.out.2 ((Below.refl _ _).drew)) hb4 (by have := hj4.hr; omega)
          have hz4 := hj4.lt
          clear hb4 hR4
          try go_wp2_with fail
          refine hK.out _ _ (HQ.out _ _ _ hj4) ?_
          clear hK K hHeld
          try simp only [Act.put, List.setIfInBounds_toArray, List.set_cons_zero, List.set_cons_succ]
          refine last_one (i := 9) rfl (by kernel_rfl) (by decide) (fun K hK => ?_)
          go_simp
          have hj5 := hj4.alloc (.cells #[Value.int .i64 vl, Value.int .i64 vh] 27)
          refine hK.out _ _ (HQ.out _ _ _ hj5) ?_
          clear hK K
          try simp only [Act.put, List.setIfInBounds_toArray, List.set_cons_zero, List.set_cons_succ]
          refine last_one (i := 10) rfl (by kernel_rfl) (by decide) (fun K hK => ?_)
          refine step_append_lies _ (by rfl) _ _ _ (by rfl) (w2.heap.size + 1) 27 i0 _ 2 16 Try.underlying25 hi0' hz0' hz1' hz2' rfl (by omega) v k _ (by rfl) (ho4.alloc _) ⟨w4.heap.size, 0, none⟩ 1 1 [.int .i64 vl, .int .i64 vh] (by rfl) (by rfl) (World.news_of_block (cs := #[.int .i64 vl, .int .i64 vh]) (t := 27) (fr := (0, 0)) (heap_alloc_new w4 _)) (by simp [Value.oneCell']) (by omega) (by unfold maxLen; omega) (by omega) (by simp only [World.size_alloc]; omega) (w4.heap.size + 1) (by simp) ?_
          intro gg cp w5 hown1 hgrow hat hlt'
          have hj6 := hj5.grown hgrow (fun g hg => (ho4.lt g hg).1)
          have hz6 := hj6.lt
          obtain ⟨g0, g1, g2, g3⟩ := hj6.st.four
          obtain ⟨v0, v1, v2, v3⟩ := hj6.st.free
          have hown2 := hown1
          rw [← show cellsI (z ++ [(vl, vh)]) = cellsI z ++ [Value.int .i64 vl, Value.int .i64 vh] from cellsI_snoc _ _] at hown2
          have HW := Lib.hid hown2
          clear hown1 hown2 hgrow hat ho4 hj4 hj5
          refine hK.out _ _ (HQ.out _ _ _ hj6) ?_
          clear hK K
          try simp only [Act.put, List.setIfInBounds_toArray, List.set_cons_zero, List.set_cons_succ]
          refine last_one (i := 11) rfl (by kernel_rfl) (by decide) (fun K hK => ?_)
          go_simp
          refine hK.out _ _ (HQ.out _ _ _ hj6) ?_
          clear hK K
          try simp only [Act.put, List.setIfInBounds_toArray, List.set_cons_zero, List.set_cons_succ]
          refine last_last rfl (by kernel_rfl) (by kernel_rfl) (fun K hK => ?_)
          go_simp
          refine hK.out _ _ ?_
          clear hK K
          try simp only [Act.put, List.setIfInBounds_toArray, List.set_cons_zero, List.set_cons_succ]
          go_wp2_with fail
          go_roundw
          case rel => exact ⟨k + 1, _, z ++ [(vl, vh)], p4, by omega, by go_num, by simp [hzl], by omega, by omega, Lib.hid ⟨hj6.set 1 _, own_below HW.out (by simp only []; omega) _⟩⟩
          case measure => simp [intOf] <;> omega
        · obtain rfl : k = 4 := by omega
          obtain ⟨hj, ho⟩ := hH.out
          obtain ⟨gg, cp, rfl, hg1, hg2⟩ := ho.form (by omega)
          have hcp : 4 ≤ cp := own_cap ho
          have HO := Lib.hid (own_of ho hzl (by omega))
          have hz3 := hj.lt
          obtain ⟨g0, g1, g2, g3⟩ := hj.st.four
          have hC := HC.out.but hj.but (by omega)
          obtain ⟨r0, r1, r2, r3⟩ := hC.four
          obtain ⟨f0, f1, f2, f3⟩ := hC.free
          clear hC
          have HJ := Lib.hid hj
          clear hH ho hj
          go_wp2_with fail
          refine bodyPost_ret (by simp [results, Try.results64, go_sem, *]; try rfl) rfl ?_
          unfold DrawSt
          have hd := (HJ.out).done (r := w.heap.size + 1) HU.out (by omega) (by omega) (.bool true) (.slice (some ⟨gg, 0, none⟩) 4 cp) (.int .i64 lo) (.int .i64 hi)
          exact ⟨true, some ⟨gg, 0, none⟩, 4, cp, lo, hi, z, p3, rfl, Lib.hid ((((HO.out.far (by simp only []; omega) _).far (by simp only []; omega) _).far (by simp only []; omega) _).far (by simp only []; omega) _).rd, ⟨by omega, .inr ⟨gg, rfl⟩⟩, by omega, (fun x hx => by cases hx; simp only []; omega), by omega, by omega, hd.1, hd.2⟩
    · have hz1 := hU1.size
      have hzC := kC.lt
      obtain ⟨r0, r1, r2, r3⟩ := kC.four
      obtain ⟨f0, f1, f2, f3⟩ := kC.free
      clear hb1 h kC
      go_wp2_with fail
      refine bodyPost_ret (by simp [results, Try.results64, go_sem, *]; try rfl) rfl ?_
      unfold DrawSt
      exact ⟨false, none, 0, 0, 0, 0, [], p1, rfl, Lib.hid ⟨rfl, .inl rfl⟩, ⟨by omega, .inl rfl⟩, by omega, (fun x hx => by cases hx), by omega, by omega, (((hR1.setCell (by simp only []; omega) _).setCell (by simp only []; omega) _).setCell (by simp only []; omega) _).setCell (by simp only []; omega) _, (((hU1.setCell (.inr (by simp only []; omega)) _).setCell (.inr (by simp only []; omega)) _).setCell (.inr (by simp only []; omega)) _).setCell (.inr (by simp only []; omega)) _⟩
end Go.Proofs.Ytdpooiiacdfpkaa
