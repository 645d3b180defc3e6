/-
  The program's and the reference's functions that write and read a number, by contract. No conditions but those that each theorem says.
-/
import Derived.Test.YtheegkfidpknbaaDoorTxt
import Derived.Test.YtheegkfidpknbaaDoorNum
import Derived.LoopTactic
import Derived.Lib.Strings
import Derived.Laws.IdiomStrings
import Derived.Test.YtheegkfidpknbaaDoorShelf
import Derived.Lib.AppendIntMem
namespace Go.Proofs.YtheegkfidpknbaaDoor
set_option linter.unusedSimpArgs false
set_option linter.unusedVariables false
open Go.ChangeShapes Go.WideShapes Go.ChangeAt Go.RowKit
open Go.Lib (itoa atoi decDigits)

theorem conv_one (d : Nat) (hd : d ≤ 255) (W : World) : (convert 22 9 (.slice (some ⟨W.heap.size, 0, none⟩) 1 1)).run Tryd.prog (W.alloc (.cells #[.int .u8 d] 5)) = .ok (.string ⟨#[UInt8.ofNat d]⟩) (W.alloc (.cells #[.int .u8 d] 5)) :=
  run_convert_bytes_back _ _ _ 5 ⟨W.heap.size, 0, none⟩ 1 [UInt8.ofNat d] Tryd.underlying22 Tryd.underlying5 Tryd.underlying9 (fun j hj => by
    obtain rfl : j = 0 := by simpa using hj
    simp [go_sem, Addr.add]
    omega)
theorem str_cons (c : UInt8) (l : List UInt8) : (⟨#[c]⟩ ++ ⟨l.toArray⟩ : ByteArray) = ⟨(c :: l).toArray⟩ := by
  apply ByteArray.ext
  rw [ByteArray.data_append]
  simp
theorem str_app (a b : List UInt8) : (⟨a.toArray⟩ ++ ⟨b.toArray⟩ : ByteArray) = ⟨(a ++ b).toArray⟩ := by
  apply ByteArray.ext
  rw [ByteArray.data_append]
  simp
theorem ret_s {a b : ByteArray} (h : a = b) : Ending.returned (.string a) = .returned (.string b) := by rw [h]
theorem ret_sl {a b : List UInt8} (h : a = b) : Ending.returned (.string ⟨a.toArray⟩) = .returned (.string ⟨b.toArray⟩) := by rw [h]
set_option maxRecDepth 100000 in
set_option maxHeartbeats 2000000 in
theorem l1Plain_s (n : Nat) (hn : (n : Int) ≤ 32768) (w : World) : Calls Tryd.prog 42 #[.int .i64 n] w fun e w' => e = .returned (.string ⟨(decDigits n).toArray⟩) ∧ Below w.heap.size w w' := by
  go_enter Tryd.func42, Tryd.ntmps42
  go_wp2_with fail
  go_loopw [0, 3] (fun v o wr => ∃ (k : Nat) (l : List UInt8), v = .int .i64 k ∧ o = .string ⟨l.toArray⟩ ∧ (k : Int) ≤ 32768 ∧ Hid (decDigits n = decDigits k ++ l) ∧ Hid (l.length + k ≤ 32768) ∧ Below w.heap.size w wr) (fun v _ _ => (intOf v).toNat)
  case atStart => exact ⟨n, [], rfl, rfl, by omega, Lib.hid (by simp), Lib.hid (by simp; omega), Below.refl _ _⟩
  case round =>
    obtain ⟨k, l, rfl, rfl, hk, hH, hl, hB⟩ := hrel
    have hsz : l.length ≤ 32768 := by have := hl.out; omega
    by_cases hlt : 9 < k
    · have hcv := fun W => conv_one (48 + k % 10) (by omega) W
      have hst := Lib.hid ((hH.out).trans (digits_step hlt l))
      have hl2 := Lib.hid (show (UInt8.ofNat (48 + k % 10) :: l).length + k / 10 ≤ 32768 by have := hl.out; simp; omega)
      rw [show UInt8.ofNat (48 + k % 10) = 48 + UInt8.ofNat (k % 10) by simp] at hst hl2
      simp only [Int.natCast_add, Int.natCast_emod, Int.cast_ofNat_Int] at hcv
      go_wp2_with fail
      go_roundw
      case rel => exact ⟨k / 10, (48 + UInt8.ofNat (k % 10)) :: l, by go_num, by rw [str_cons], by omega, hst, hl2, hB.alloc hB.size _⟩
      case measure => simp [intOf]; omega
    · have hcv := fun W => conv_one (48 + k) (by omega) W
      have hst := Lib.hid ((hH.out).trans (congrArg (· ++ l) (digits_last (show k ≤ 9 by omega))))
      simp only [Int.natCast_add, Int.cast_ofNat_Int] at hcv
      go_wp2_with fail
      go_ret
      refine ⟨?_, hB.alloc hB.size _⟩
      rw [str_cons, hst.out]
      simp
set_option maxRecDepth 100000 in
set_option maxHeartbeats 2000000 in
theorem l1Digits_s (n : Int) (h : numOk n = true) (w : World) : Calls Tryd.prog 35 #[.int .i64 n] w fun e w' => e = .returned (.string ⟨(itoa n).toArray⟩) ∧ Below w.heap.size w w' := by
  have k := (numOk_iff n).1 h
  by_cases hn : n < 0
  · obtain ⟨u, hu⟩ : ∃ u : Nat, -n = (u : Int) := ⟨n.natAbs, by omega⟩
    have e1 : n = -(u : Int) := by omega
    subst e1
    have hl := digits_len (u := u) (by omega)
    have hi := Lib.hid (Go.Lib.itoa_neg u (by omega))
    clear h hu
    go_enter Tryd.func35, Tryd.ntmps35
    go_wp2_with (go_at_call 42; refine (l1Plain_s u (by omega) _).mono ?_; rintro e w' ⟨rfl, hB⟩)
    go_ret
    exact ⟨ret_s (by rw [hi.out, str_cons]), hB⟩
  · obtain ⟨u, rfl⟩ : ∃ u : Nat, n = (u : Int) := ⟨n.natAbs, by omega⟩
    have hi := Lib.hid (Go.Lib.itoa_nonneg u)
    clear h
    go_enter Tryd.func35, Tryd.ntmps35
    go_wp2_with (go_at_call 42; refine (l1Plain_s u (by omega) _).mono ?_; rintro e w' ⟨rfl, hB⟩)
    go_ret
    exact ⟨ret_sl hi.out.symm, hB⟩
set_option maxHeartbeats 2000000 in
theorem numText_s (n : Int) (w : World) : Calls Tryd.prog 14 #[.int .i64 n] w fun e w' => e = .returned (.string ⟨(txtN n).toArray⟩) ∧ Below w.heap.size w w' := by
  rcases Bool.eq_false_or_eq_true (numOk n) with h | h
  · have ht := Lib.hid (txt_ok h)
    go_enter Tryd.func14, Tryd.ntmps14
    go_wp2_with (first
      | (go_at_call 15; refine (numOk_s _ _).mono ?_; rintro e w' ⟨rfl, rfl⟩)
      | (go_at_call 35; refine (l1Digits_s n h _).mono ?_; rintro e w' ⟨rfl, hB⟩))
    go_ret
    exact ⟨ret_sl ht.out.symm, hB⟩
  · have ht := Lib.hid (txt_bad h)
    go_enter Tryd.func14, Tryd.ntmps14
    go_wp2_with (go_at_call 15; refine (numOk_s _ _).mono ?_; rintro e w' ⟨rfl, rfl⟩)
    go_ret
    exact ⟨ret_sl ht.out.symm, by go_grown⟩
theorem digit_some {b : UInt8} (h : 48 ≤ b.toNat ∧ b.toNat ≤ 57) : Go.Lib.digitVal b = some (b.toNat - 48) := if_pos h
theorem valD_some {l : List UInt8} {m : Nat} (h0 : l.length ≠ 0) (h6 : l.length ≤ 6) (h : Go.Lib.decFrom 0 l = some m) : valD l = ((m : Int), true) := by
  unfold valD
  rw [if_neg (by omega), h]
theorem valD_none {l : List UInt8} {k : Nat} {b : UInt8} (hb : l[k]? = some b) (h : ¬ (48 ≤ b.toNat ∧ b.toNat ≤ 57)) : valD l = (0, false) := by
  unfold valD
  split
  · rfl
  · cases hd : Go.Lib.decFrom 0 l with
    | none => rfl
    | some n => exact absurd (digit_bd hd b (List.mem_of_getElem? hb)) h
theorem valD_len {l : List UInt8} (h : l.length = 0 ∨ 6 < l.length) : valD l = (0, false) := by unfold valD; rw [if_pos h]
set_option maxRecDepth 100000 in
set_option maxHeartbeats 2000000 in
theorem l1Value_s (s : ByteArray) (hs : s.size ≤ maxLen) (w : World) : Calls Tryd.prog 32 #[.string s] w fun e w' => e = .returned (.tuple #[.int .i64 (valD s.data.toList).1, .bool (valD s.data.toList).2]) ∧ w = w' := by
  have hsz : s.data.toList.length = s.size := by simp
  unfold maxLen at hs
  by_cases h0 : s.size = 0
  · have hv := Lib.hid (valD_len (l := s.data.toList) (.inl (by omega)))
    clear hsz
    go_enter Tryd.func32, Tryd.ntmps32
    go_wp2_with fail
    go_ret2
    exact ⟨ret_ib (by rw [hv.out]) (by rw [hv.out]), rfl⟩
  by_cases h6 : 6 < s.size
  · have hv := Lib.hid (valD_len (l := s.data.toList) (.inr (by omega)))
    clear hsz
    go_enter Tryd.func32, Tryd.ntmps32
    go_wp2_with fail
    go_ret2
    exact ⟨ret_ib (by rw [hv.out]) (by rw [hv.out]), rfl⟩
  have H0 : ((s.size : Int) == 0) = false := by rw [beq_eq_false_iff_ne]; omega
  have H6 : decide (6 < (s.size : Int)) = false := by rw [decide_eq_false_iff_not]; omega
  have Hsz := Lib.hid hsz
  clear hsz
  go_enter Tryd.func32, Tryd.ntmps32
  go_wp2_with fail
  go_loop [4, 5] (fun n i => ∃ k m : Nat, k ≤ s.size ∧ i = .int .i64 k ∧ n = .int .i64 m ∧ Hid (Go.Lib.decFrom 0 (s.data.toList.take k) = some m)) (fun _ i => s.size - (intOf i).toNat)
  case atStart => exact ⟨0, 0, by omega, rfl, rfl, Lib.hid rfl⟩
  case round =>
    obtain ⟨k, m, hk, rfl, rfl, hm⟩ := hrel
    have hmb : (m : Int) ≤ 999999 := by
      have h1 := Go.Lib.decFrom_lt _ 0 m hm.out
      have h2 : 10 ^ (s.data.toList.take k).length ≤ 10 ^ 6 := Nat.pow_le_pow_right (by decide) (by rw [List.length_take]; omega)
      have h3 : (10 : Nat) ^ 6 = 1000000 := by decide
      omega
    by_cases hlt : k < s.size
    · have hg := Lib.hid (show s.data.toList[k]? = some s[k] by rw [List.getElem?_eq_getElem (by rw [Hsz.out]; exact hlt)]; rfl)
      by_cases hd : 48 ≤ s[k].toNat ∧ s[k].toNat ≤ 57
      · have hn := Lib.hid (Go.Lib.decFrom_take _ k 0 m _ _ hm.out hg.out (digit_some hd))
        obtain ⟨hd1, hd2⟩ := hd
        go_wp2_with fail
        go_round
        case rel => exact ⟨k + 1, m * 10 + (s[k].toNat - 48), by omega, by go_num, by go_num, hn⟩
        case measure => simp [intOf]; omega
      · have hv := Lib.hid (valD_none hg.out hd)
        go_wp2_with fail
        all_goals go_ret2
        all_goals exact ⟨ret_ib (by rw [hv.out]) (by rw [hv.out]), rfl⟩
    · obtain rfl : k = s.size := by omega
      go_wp2_with fail
      go_ret2
      have hv := valD_some (l := s.data.toList) (m := m) (by rw [Hsz.out]; omega) (by rw [Hsz.out]; omega) (by have := hm.out; rwa [List.take_of_length_le (by rw [Hsz.out]; omega)] at this)
      exact ⟨ret_ib (by rw [hv]) (by rw [hv]), rfl⟩
theorem mk_list (s : ByteArray) : (⟨s.data.toList.toArray⟩ : ByteArray) = s := by cases s; simp
theorem ext_tail {s : ByteArray} {b : UInt8} {r : List UInt8} (h : s.data.toList = b :: r) : (s.extract 1 s.size).data.toList = r := by
  have hs : s.size = r.length + 1 := by have : s.data.toList.length = s.size := by simp
                                        rw [h] at this; simpa using this.symm
  have e : (s.extract 1 s.size).data = s.data.extract 1 s.size := ByteArray.data_extract
  rw [e, Array.toList_extract, List.extract_eq_take_drop, h, hs]
  simp
theorem str_ne {x s : ByteArray} (h : x ≠ s) : (x.toList == s.toList) = false := by
  rw [beq_eq_false_iff_ne, Go.Lib.toList_data, Go.Lib.toList_data]
  intro e
  exact h (by rw [← mk_list x, ← mk_list s, e])
set_option maxRecDepth 100000 in
set_option maxHeartbeats 2000000 in
theorem numRead_s (s : ByteArray) (hs : s.size ≤ maxLen) (w : World) : Calls Tryd.prog 12 #[.string s] w fun e w' => e = .returned (.tuple #[.int .i64 (readN s.data.toList).1, .bool (readN s.data.toList).2]) ∧ Below w.heap.size w w' := by
  have hsz : s.data.toList.length = s.size := by simp
  unfold maxLen at hs
  cases hl : s.data.toList with
  | nil =>
    have h0 : s.size = 0 := by rw [hl] at hsz; simpa using hsz.symm
    have hv := Lib.hid (valD_len (l := s.data.toList) (.inl (by omega)))
    have hr := Lib.hid (show readN [] = (0, false) from rfl)
    clear hsz hl
    go_enter Tryd.func12, Tryd.ntmps12
    go_wp2_with (first
      | (go_at_call 32; refine (l1Value_s s (by unfold maxLen; omega) _).mono ?_; rw [hv.out]; rintro e w' ⟨rfl, rfl⟩))
    go_ret2
    exact ⟨ret_ib (by rw [hr.out]) (by rw [hr.out]), by go_grown⟩
  | cons b r =>
    have h0 : 0 < s.size := by rw [hl] at hsz; simp at hsz; omega
    have hg : s[0] = b := by
      have h1 : s.data.toList[0]? = some s[0] := by rw [List.getElem?_eq_getElem (by rw [hsz]; exact h0)]; rfl
      rw [hl] at h1
      simpa using h1.symm
    by_cases hb : b = 45
    · subst hb
      have hb0 : ((s[0].toNat : Int) == 45) = true := by rw [hg]; rfl
      have ht := ext_tail hl
      have hts : (s.extract 1 s.size).size = s.size - 1 := by
        have : (s.extract 1 s.size).data.toList.length = (s.extract 1 s.size).size := by simp
        rw [← this, ht]; rw [hl] at hsz; simp at hsz; omega
      have Hl := Lib.hid hl
      have Ht := Lib.hid ht
      clear ht
      have hb := valD_bd r
      obtain ⟨⟨m, ok⟩, hv⟩ : ∃ v, v = valD r := ⟨_, rfl⟩
      rw [← hv] at hb
      simp only at hb
      obtain ⟨hb1, hb2⟩ := hb
      cases ok with
      | false =>
        have hr := Lib.hid (spec_neg_no (show (valD r).2 = false by rw [← hv]))
        have Hv := Lib.hid hv.symm
        clear hv hsz hg hl
        go_enter Tryd.func12, Tryd.ntmps12
        go_wp2_with (go_at_call 32; refine (l1Value_s _ (by unfold maxLen; omega) _).mono ?_; rw [Ht.out, Hv.out]; rintro e w' ⟨rfl, rfl⟩)
        go_ret2
        exact ⟨ret_ib (by rw [hr.out]) (by rw [hr.out]), by go_grown⟩
      | true =>
        obtain ⟨x, hx⟩ : ∃ x : ByteArray, x = ⟨(txtN (-m)).toArray⟩ := ⟨_, rfl⟩
        by_cases he : txtN (-m) = 45 :: r
        · have hxs : x = s := by rw [hx, he, ← hl, mk_list]
          have hr := Lib.hid (spec_yes (by simp) he)
          have Hv := Lib.hid hv.symm
          have Hx := Lib.hid hx.symm
          have Hs := Lib.hid hxs
          clear hv hx hxs he hsz hg hl
          go_enter Tryd.func12, Tryd.ntmps12
          go_wp2_with (first
            | (go_at_call 32; refine (l1Value_s _ (by unfold maxLen; omega) _).mono ?_; rw [Ht.out, Hv.out]; rintro e w' ⟨rfl, rfl⟩)
            | (go_at_call 14; refine (numText_s _ _).mono ?_; rw [Hx.out, Hs.out]; rintro e w' ⟨rfl, hB⟩))
          go_ret2
          exact ⟨ret_ib (by rw [hr.out]) (by rw [hr.out]), hB⟩
        · have hxs : (x.toList == s.toList) = false := str_ne (fun e => he (by rw [← hl, ← e, hx]))
          have hr := Lib.hid (spec_neg_ne (r := r) (by rw [← hv]; exact he))
          have Hv := Lib.hid hv.symm
          have Hx := Lib.hid hx.symm
          clear hv hx he hsz hg hl
          go_enter Tryd.func12, Tryd.ntmps12
          go_wp2_with (first
            | (go_at_call 32; refine (l1Value_s _ (by unfold maxLen; omega) _).mono ?_; rw [Ht.out, Hv.out]; rintro e w' ⟨rfl, rfl⟩)
            | (go_at_call 14; refine (numText_s _ _).mono ?_; rw [Hx.out]; rintro e w' ⟨rfl, hB⟩))
          go_ret2
          exact ⟨ret_ib (by rw [hr.out]) (by rw [hr.out]), hB⟩
    · have hb0 : ((s[0].toNat : Int) == 45) = false := by
        rw [hg, beq_eq_false_iff_ne]
        intro e
        exact hb (UInt8.toNat_inj.1 (by have : (45 : UInt8).toNat = 45 := rfl; omega))
      have hh : (b :: r).head? ≠ some 45 := by simpa using hb
      have Hl := Lib.hid hl
      clear hb
      have hb := valD_bd (b :: r)
      obtain ⟨⟨m, ok⟩, hv⟩ : ∃ v, v = valD (b :: r) := ⟨_, rfl⟩
      rw [← hv] at hb
      simp only at hb
      obtain ⟨hb1, hb2⟩ := hb
      cases ok with
      | false =>
        have hr := Lib.hid (spec_pos_no (show (valD (b :: r)).2 = false by rw [← hv]) hh)
        have Hv := Lib.hid hv.symm
        clear hv hsz hg hl
        go_enter Tryd.func12, Tryd.ntmps12
        go_wp2_with (go_at_call 32; refine (l1Value_s _ (by unfold maxLen; omega) _).mono ?_; rw [Hl.out, Hv.out]; rintro e w' ⟨rfl, rfl⟩)
        go_ret2
        exact ⟨ret_ib (by rw [hr.out]) (by rw [hr.out]), by go_grown⟩
      | true =>
        obtain ⟨x, hx⟩ : ∃ x : ByteArray, x = ⟨(txtN (m)).toArray⟩ := ⟨_, rfl⟩
        by_cases he : txtN (m) = b :: r
        · have hxs : x = s := by rw [hx, he, ← hl, mk_list]
          have hr := Lib.hid (spec_yes (by simp) he)
          have Hv := Lib.hid hv.symm
          have Hx := Lib.hid hx.symm
          have Hs := Lib.hid hxs
          clear hv hx hxs he hsz hg hl
          go_enter Tryd.func12, Tryd.ntmps12
          go_wp2_with (first
            | (go_at_call 32; refine (l1Value_s _ (by unfold maxLen; omega) _).mono ?_; rw [Hl.out, Hv.out]; rintro e w' ⟨rfl, rfl⟩)
            | (go_at_call 14; refine (numText_s _ _).mono ?_; rw [Hx.out, Hs.out]; rintro e w' ⟨rfl, hB⟩))
          go_ret2
          exact ⟨ret_ib (by rw [hr.out]) (by rw [hr.out]), hB⟩
        · have hxs : (x.toList == s.toList) = false := str_ne (fun e => he (by rw [← hl, ← e, hx]))
          have hr := Lib.hid (spec_pos_ne hh (by rw [← hv]; exact he))
          have Hv := Lib.hid hv.symm
          have Hx := Lib.hid hx.symm
          clear hv hx he hsz hg hl
          go_enter Tryd.func12, Tryd.ntmps12
          go_wp2_with (first
            | (go_at_call 32; refine (l1Value_s _ (by unfold maxLen; omega) _).mono ?_; rw [Hl.out, Hv.out]; rintro e w' ⟨rfl, rfl⟩)
            | (go_at_call 14; refine (numText_s _ _).mono ?_; rw [Hx.out]; rintro e w' ⟨rfl, hB⟩))
          go_ret2
          exact ⟨ret_ib (by rw [hr.out]) (by rw [hr.out]), hB⟩
/-- The library's table of powers of ten lies as its text lays it. -/
def Tab (w : World) : Prop := Lib.TabIs Tryd.prog w "internal/strconv.uint64pow10" .u64 Lib.pow10Tab
theorem gTab : Tryd.prog.globalNamed "internal/strconv.uint64pow10" = some 3 := by kernel_rfl
theorem Tab.below {w w' : World} (h : Tab w) (hb : Below w.heap.size w w') : Tab w' := Joins.tab_stays gTab h hb (Nat.le_refl _)
set_option maxHeartbeats 2000000 in
theorem numText_i (n : Int) (w : World) (hT : Tab w) : Calls Tryd.prog 13 #[.int .i64 n] w fun e w' => e = .returned (.string ⟨(txtN n).toArray⟩) ∧ Below w.heap.size w w' := by
  rcases Bool.eq_false_or_eq_true (numOk n) with h | h
  · have ht := Lib.hid (txt_ok h)
    have k := (numOk_iff n).1 h
    go_enter Tryd.func13, Tryd.ntmps13
    go_wp2_with (first
      | (go_at_call 33; refine (numOk_i _ _).mono ?_; rintro e w' ⟨rfl, rfl⟩)
      | (go_at_call 34; refine (Tryd.strconv_Itoa n (by omega) (by omega) _ hT).mono ?_; rintro e w' ⟨rfl, hk⟩; have hB : Below w.heap.size w w' := (by obtain ⟨k, os, rfl⟩ := hk; exact Lib.below_grow _ _ (Nat.le_refl _) _ _); clear hk))
    go_ret
    exact ⟨ret_sl ht.out.symm, hB⟩
  · have ht := Lib.hid (txt_bad h)
    go_enter Tryd.func13, Tryd.ntmps13
    go_wp2_with (go_at_call 33; refine (numOk_i _ _).mono ?_; rintro e w' ⟨rfl, rfl⟩)
    go_ret
    exact ⟨ret_sl ht.out.symm, by go_grown⟩
/-- The library's two errors hold some errors. -/
def Errs (w : World) : Prop := (∃ t p, w.cell? ⟨0, 0, none⟩ = some (.iface t p)) ∧ ∃ t p, w.cell? ⟨1, 0, none⟩ = some (.iface t p)
theorem Errs.below {w w' : World} (h : Errs w) (hb : Below w.heap.size w w') : Errs w' := by
  obtain ⟨⟨t, p, h1⟩, ⟨u, q, h2⟩⟩ := h
  exact ⟨⟨t, p, (hb.cell (p := ⟨_, 0, none⟩) (blk h1)).trans h1⟩, ⟨u, q, (hb.cell (p := ⟨_, 0, none⟩) (blk h2)).trans h2⟩⟩
/-- strconv.Atoi at every text: a number and no error, or an error. -/
theorem atoi_any (s : ByteArray) (hs : s.size ≤ 281474976710656) (w : World) (hE : Errs w) : (∃ v : Int, Lib.atoiAll s.data.toList = .ok v ∧ Calls Tryd.prog 31 #[.string s] w fun e w' => e = .returned (.tuple #[.int .i64 v, .nilIface]) ∧ Below w.heap.size w w') ∨
    ((∀ n, Lib.atoiAll s.data.toList ≠ .ok n) ∧ ∃ v : Int, Calls Tryd.prog 31 #[.string s] w fun e w' => ∃ N, e = .returned (.tuple #[.int .i64 v, .iface 63 (.pointer (some ⟨N, 0, none⟩))]) ∧ Below w.heap.size w w') := by
  obtain ⟨⟨t, p, h1⟩, ⟨u, q, h2⟩⟩ := hE
  have hall : (∃ v, Lib.atoiAll s.data.toList = .ok v) ∨ Lib.atoiAll s.data.toList = Lib.NumEnd.syntax ∨ Lib.atoiAll s.data.toList = .range := by
    cases Lib.atoiAll s.data.toList <;> simp
  rcases hall with ⟨v, h⟩ | h | h
  ·
    refine .inl ⟨v, h, (Tryd.strconv_Atoi_ok s (by omega) v h w).mono ?_⟩
    rintro e w' ⟨rfl, hk⟩
    refine ⟨rfl, ?_⟩
    rcases hk with rfl | ⟨t, rfl⟩
    · exact Below.refl _ _
    · exact Lib.bytesWorld_below _ _ _
  ·
    refine .inr ⟨fun n => (by rw [h]; intro e; cases e), 0, (Tryd.strconv_Atoi_syntax s hs h _ w h1 (.inr ⟨_, _, rfl⟩)).mono ?_⟩
    rintro e w' ⟨N, rfl, _, _, hb⟩
    exact ⟨N, rfl, hb⟩
  ·
    refine .inr ⟨fun n => (by rw [h]; intro e; cases e), Lib.atoiSat s.data.toList, (Tryd.strconv_Atoi_range s hs h _ w h2 (.inr ⟨_, _, rfl⟩)).mono ?_⟩
    rintro e w' ⟨N, rfl, _, _, hb⟩
    exact ⟨N, rfl, hb⟩
set_option maxRecDepth 100000 in
set_option maxHeartbeats 2000000 in
theorem numRead_i (s : ByteArray) (hs : s.size ≤ 281474976710656) (w : World) (hT : Tab w) (hE : Errs w) : Calls Tryd.prog 11 #[.string s] w fun e w' => e = .returned (.tuple #[.int .i64 (readN s.data.toList).1, .bool (readN s.data.toList).2]) ∧ Below w.heap.size w w' := by
  rcases atoi_any s hs w hE with ⟨n, hn, hc⟩ | ⟨hn, v, hc⟩
  · obtain ⟨x, hx⟩ : ∃ x : ByteArray, x = ⟨(txtN n).toArray⟩ := ⟨_, rfl⟩
    by_cases he : txtN n = s.data.toList
    · have hxs : x = s := by rw [hx, he, mk_list]
      have hr := Lib.hid (impl_ok hn he)
      have Hx := Lib.hid (hx.symm.trans hxs)
      clear hx hxs he hn hs
      go_enter Tryd.func11, Tryd.ntmps11
      go_wp2_with (first
        | (go_at_call 31; refine hc.mono ?_; rintro e w1 ⟨rfl, hB1⟩)
        | (go_at_call 13; refine (numText_i _ _ (hT.below hB1)).mono ?_; rw [Hx.out]; rintro e w' ⟨rfl, hB⟩))
      all_goals go_ret2
      all_goals exact ⟨ret_ib (by rw [hr.out]) (by rw [hr.out]), below_on hB1 hB⟩
    · have hxs : (x.toList == s.toList) = false := str_ne (fun e => he (by rw [← e, hx]))
      have hr := Lib.hid (impl_no hn he)
      have Hx := Lib.hid hx.symm
      clear hx he hn hs
      go_enter Tryd.func11, Tryd.ntmps11
      go_wp2_with (first
        | (go_at_call 31; refine hc.mono ?_; rintro e w1 ⟨rfl, hB1⟩)
        | (go_at_call 13; refine (numText_i _ _ (hT.below hB1)).mono ?_; rw [Hx.out]; rintro e w' ⟨rfl, hB⟩))
      all_goals go_ret2
      all_goals exact ⟨ret_ib (by rw [hr.out]) (by rw [hr.out]), below_on hB1 hB⟩
  · have hr := Lib.hid (impl_err hn)
    clear hn hs
    go_enter Tryd.func11, Tryd.ntmps11
    go_wp2_with (go_at_call 31; refine hc.mono ?_; rintro e w1 ⟨N, rfl, hB1⟩)
    all_goals go_ret2
    all_goals exact ⟨ret_ib (by rw [hr.out]) (by rw [hr.out]), hB1⟩
end Go.Proofs.YtheegkfidpknbaaDoor
