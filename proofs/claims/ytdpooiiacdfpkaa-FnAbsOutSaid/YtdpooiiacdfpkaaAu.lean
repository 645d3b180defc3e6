/-
  AbsJoin and AbsWide at any states: what they leave is told by a plain function. No conditions but those that each theorem says.
-/
import Derived.Test.YtdpooiiacdfpkaaAjJ
import Derived.Test.YtdpooiiacdfpkaaAjW
import Derived.Test.YtdpooiiacdfpkaaAk3J
import Derived.Test.YtdpooiiacdfpkaaAk3W
namespace Go.Proofs.Ytdpooiiacdfpkaa
set_option linter.unusedSimpArgs false
set_option linter.unusedVariables false
open Go.ChangeShapes Go.WideShapes Go.ChangeAt Go.RowKit Go.Sort

/-- A state, by value. -/
structure St where
  on : Bool
  lo : Int
  hi : Int
  z : List (Int × Int)
def St.ok (s : St) : Bool := absOk s.on s.z (s.lo, s.hi)
def St.nil_ : St := ⟨false, 0, 0, []⟩
def stJoin (a b : St) : St := if a.ok && b.ok then (if a.on then (if b.on then ⟨true, (joinI (a.lo, a.hi) (b.lo, b.hi)).1, (joinI (a.lo, a.hi) (b.lo, b.hi)).2, eachJoin a.z b.z⟩ else a) else b) else St.nil_
def stWide (a b : St) : St := if a.ok && b.ok then (if a.on then (if b.on then ⟨true, (wideI (a.lo, a.hi) (b.lo, b.hi)).1, (wideI (a.lo, a.hi) (b.lo, b.hi)).2, eachWide a.z b.z⟩ else a) else b) else St.nil_
/-- A state in new memory. -/
def StR (w : World) (on : Bool) (len : Nat) (lo hi : Int) (z : List (Int × Int)) (e : Ending) (w' : World) : Prop := ∃ a cap, e = .returned (.agg #[.bool on, .slice a len cap, .int .i64 lo, .int .i64 hi]) ∧ Hid (RdI w' a len z) ∧ Hid (AtHead a len cap) ∧ Below w.heap.size w w'
theorem of_empty {w w' : World} {e : Ending} (h : EmptyR w e w') : StR w false 0 0 0 [] e w' := ⟨none, 0, h.1, Lib.hid ⟨rfl, .inl rfl⟩, Lib.hid ⟨by omega, .inl rfl⟩, h.2⟩
theorem of_full {w w' : World} {lo hi : Int} {z : List (Int × Int)} {e : Ending} (h : FullR w lo hi z e w') : StR w true 4 lo hi z e w' := by
  obtain ⟨g, cap, he, hg, ho, hb⟩ := h
  exact ⟨some ⟨g, 0, none⟩, cap, he, Lib.hid ho.rd, Lib.hid ⟨hg.2, .inr ⟨g, rfl⟩⟩, hb⟩
theorem ok_off {s : St} (h : s.ok = true) (ho : s.on = false) : s = St.nil_ := by
  obtain ⟨on, lo, hi, z⟩ := s
  simp only at ho
  subst ho
  simp only [St.ok, absOk_off, Bool.and_eq_true, decide_eq_true_eq, Prod.mk.injEq] at h
  obtain ⟨h1, rfl, rfl⟩ := h
  obtain rfl := List.length_eq_zero_iff.1 h1
  rfl
theorem ok_on {s : St} (h : s.ok = true) (ho : s.on = true) : s.z.length = 4 := by
  obtain ⟨on, lo, hi, z⟩ := s
  simp only at ho
  subst ho
  exact four_of_ok h
theorem absJoin_iu {on0 : Bool} {a0 : Option Addr} {len0 cap0 : Nat} {lo0 hi0 : Int} {z0 : List (Int × Int)} {on1 : Bool} {a1 : Option Addr} {len1 cap1 : Nat} {lo1 hi1 : Int} {z1 : List (Int × Int)} {jo : Bool} {jn : Nat} {jl jh : Int} {jz : List (Int × Int)} (h : stJoin ⟨on0, lo0, hi0, z0⟩ ⟨on1, lo1, hi1, z1⟩ = ⟨jo, jl, jh, jz⟩) (hn : jz.length = jn) (w : World) (hz0 : RdI w a0 len0 z0) (hl0 : len0 ≤ 1048576) (ha0 : AtHead a0 len0 cap0) (hz1 : RdI w a1 len1 z1) (hl1 : len1 ≤ 1048576) (ha1 : AtHead a1 len1 cap1) : Calls Try.prog 16 #[.agg #[.bool on0, .slice a0 len0 cap0, .int .i64 lo0, .int .i64 hi0], .agg #[.bool on1, .slice a1 len1 cap1, .int .i64 lo1, .int .i64 hi1]] w (StR w jo jn jl jh jz) := by
  unfold stJoin at h
  simp only [St.ok] at h
  rcases Bool.eq_false_or_eq_true (absOk on0 z0 (lo0, hi0)) with h0 | h0
  · rcases Bool.eq_false_or_eq_true (absOk on1 z1 (lo1, hi1)) with h1 | h1
    · rw [h0, h1] at h
      cases on0
      · simp only [Bool.and_self, if_true, Bool.false_eq_true, if_false, St.mk.injEq] at h
        obtain ⟨rfl, rfl, rfl, rfl⟩ := h
        cases on1
        · have e := ok_off (s := ⟨false, lo1, hi1, z1⟩) h1 rfl
          simp only [St.nil_, St.mk.injEq] at e
          obtain ⟨_, rfl, rfl, rfl⟩ := e
          simp only [List.length_nil] at hn
          subst hn
          exact (absJoin_i2 _ _ _ _ _ _ _ _ _ _ _ _ w hz0 hl0 hz1 hl1 ha0 ha1 h0 h1).mono fun _ _ => of_empty
        · obtain rfl : 4 = jn := (four_of_ok h1).symm.trans hn
          exact (absJoin_i3 _ _ _ _ _ _ _ _ _ _ _ _ w hz0 hl0 hz1 hl1 ha0 ha1 h0 h1).mono fun _ _ => of_full
      · cases on1
        · simp only [Bool.and_self, if_true, Bool.false_eq_true, if_false, St.mk.injEq] at h
          obtain ⟨rfl, rfl, rfl, rfl⟩ := h
          obtain rfl : 4 = jn := (four_of_ok h0).symm.trans hn
          exact (absJoin_i4 _ _ _ _ _ _ _ _ _ _ _ _ w hz0 hl0 hz1 hl1 ha0 ha1 h0 h1).mono fun _ _ => of_full
        · simp only [Bool.and_self, if_true, St.mk.injEq] at h
          obtain ⟨rfl, rfl, rfl, rfl⟩ := h
          obtain rfl : 4 = jn := (eachJoin_len _ _).symm.trans hn
          exact (absJoin_i5 _ _ _ _ _ _ _ _ _ _ _ _ w hz0 hl0 hz1 hl1 ha0 ha1 h0 h1 _ _ rfl).mono fun _ _ => of_full
    · rw [h0, h1] at h
      simp only [Bool.and_false, Bool.false_eq_true, if_false, St.nil_, St.mk.injEq] at h
      obtain ⟨rfl, rfl, rfl, rfl⟩ := h
      simp only [List.length_nil] at hn
      subst hn
      exact (absJoin_i1 _ _ _ _ _ _ _ _ _ _ _ _ _ _ w hz0 hl0 hz1 hl1 ha0 ha1 h0 h1).mono fun _ _ => of_empty
  · rw [h0] at h
    simp only [Bool.false_and, Bool.false_eq_true, if_false, St.nil_, St.mk.injEq] at h
    obtain ⟨rfl, rfl, rfl, rfl⟩ := h
    simp only [List.length_nil] at hn
    subst hn
    exact (absJoin_i0 _ _ _ _ _ _ _ _ _ _ _ _ _ _ w hz0 hl0 hz1 hl1 ha0 ha1 _ h0 rfl).mono fun _ _ => of_empty
theorem absJoin_su {on0 : Bool} {a0 : Option Addr} {len0 cap0 : Nat} {lo0 hi0 : Int} {z0 : List (Int × Int)} {on1 : Bool} {a1 : Option Addr} {len1 cap1 : Nat} {lo1 hi1 : Int} {z1 : List (Int × Int)} {jo : Bool} {jn : Nat} {jl jh : Int} {jz : List (Int × Int)} (h : stJoin ⟨on0, lo0, hi0, z0⟩ ⟨on1, lo1, hi1, z1⟩ = ⟨jo, jl, jh, jz⟩) (hn : jz.length = jn) (w : World) (hz0 : RdI w a0 len0 z0) (hl0 : len0 ≤ 1048576) (ha0 : AtHead a0 len0 cap0) (hz1 : RdI w a1 len1 z1) (hl1 : len1 ≤ 1048576) (ha1 : AtHead a1 len1 cap1) : Calls Try.prog 14 #[.agg #[.bool on0, .slice a0 len0 cap0, .int .i64 lo0, .int .i64 hi0], .agg #[.bool on1, .slice a1 len1 cap1, .int .i64 lo1, .int .i64 hi1]] w (StR w jo jn jl jh jz) := by
  unfold stJoin at h
  simp only [St.ok] at h
  rcases Bool.eq_false_or_eq_true (absOk on0 z0 (lo0, hi0)) with h0 | h0
  · rcases Bool.eq_false_or_eq_true (absOk on1 z1 (lo1, hi1)) with h1 | h1
    · rw [h0, h1] at h
      cases on0
      · simp only [Bool.and_self, if_true, Bool.false_eq_true, if_false, St.mk.injEq] at h
        obtain ⟨rfl, rfl, rfl, rfl⟩ := h
        cases on1
        · have e := ok_off (s := ⟨false, lo1, hi1, z1⟩) h1 rfl
          simp only [St.nil_, St.mk.injEq] at e
          obtain ⟨_, rfl, rfl, rfl⟩ := e
          simp only [List.length_nil] at hn
          subst hn
          exact (absJoin_s2 _ _ _ _ _ _ _ _ _ _ _ _ w hz0 hl0 hz1 hl1 h0 h1).mono fun _ _ => of_empty
        · obtain rfl : 4 = jn := (four_of_ok h1).symm.trans hn
          exact (absJoin_s3 _ _ _ _ _ _ _ _ _ _ _ _ w hz0 hl0 hz1 hl1 ha0 ha1 h0 h1).mono fun _ _ => of_full
      · cases on1
        · simp only [Bool.and_self, if_true, Bool.false_eq_true, if_false, St.mk.injEq] at h
          obtain ⟨rfl, rfl, rfl, rfl⟩ := h
          obtain rfl : 4 = jn := (four_of_ok h0).symm.trans hn
          exact (absJoin_s4 _ _ _ _ _ _ _ _ _ _ _ _ w hz0 hl0 hz1 hl1 ha0 ha1 h0 h1).mono fun _ _ => of_full
        · simp only [Bool.and_self, if_true, St.mk.injEq] at h
          obtain ⟨rfl, rfl, rfl, rfl⟩ := h
          obtain rfl : 4 = jn := (eachJoin_len _ _).symm.trans hn
          exact (absJoin_s5 _ _ _ _ _ _ _ _ _ _ _ _ w hz0 hl0 hz1 hl1 ha0 ha1 h0 h1 _ _ rfl).mono fun _ _ => of_full
    · rw [h0, h1] at h
      simp only [Bool.and_false, Bool.false_eq_true, if_false, St.nil_, St.mk.injEq] at h
      obtain ⟨rfl, rfl, rfl, rfl⟩ := h
      simp only [List.length_nil] at hn
      subst hn
      exact (absJoin_s1 _ _ _ _ _ _ _ _ _ _ _ _ _ _ w hz0 hl0 hz1 hl1 h0 h1).mono fun _ _ => of_empty
  · rw [h0] at h
    simp only [Bool.false_and, Bool.false_eq_true, if_false, St.nil_, St.mk.injEq] at h
    obtain ⟨rfl, rfl, rfl, rfl⟩ := h
    simp only [List.length_nil] at hn
    subst hn
    exact (absJoin_s0 _ _ _ _ _ _ _ _ _ _ _ _ _ _ w hz0 hl0 hz1 hl1 h0).mono fun _ _ => of_empty
theorem absWide_iu {on0 : Bool} {a0 : Option Addr} {len0 cap0 : Nat} {lo0 hi0 : Int} {z0 : List (Int × Int)} {on1 : Bool} {a1 : Option Addr} {len1 cap1 : Nat} {lo1 hi1 : Int} {z1 : List (Int × Int)} {jo : Bool} {jn : Nat} {jl jh : Int} {jz : List (Int × Int)} (h : stWide ⟨on0, lo0, hi0, z0⟩ ⟨on1, lo1, hi1, z1⟩ = ⟨jo, jl, jh, jz⟩) (hn : jz.length = jn) (w : World) (hz0 : RdI w a0 len0 z0) (hl0 : len0 ≤ 1048576) (ha0 : AtHead a0 len0 cap0) (hz1 : RdI w a1 len1 z1) (hl1 : len1 ≤ 1048576) (ha1 : AtHead a1 len1 cap1) : Calls Try.prog 21 #[.agg #[.bool on0, .slice a0 len0 cap0, .int .i64 lo0, .int .i64 hi0], .agg #[.bool on1, .slice a1 len1 cap1, .int .i64 lo1, .int .i64 hi1]] w (StR w jo jn jl jh jz) := by
  unfold stWide at h
  simp only [St.ok] at h
  rcases Bool.eq_false_or_eq_true (absOk on0 z0 (lo0, hi0)) with h0 | h0
  · rcases Bool.eq_false_or_eq_true (absOk on1 z1 (lo1, hi1)) with h1 | h1
    · rw [h0, h1] at h
      cases on0
      · simp only [Bool.and_self, if_true, Bool.false_eq_true, if_false, St.mk.injEq] at h
        obtain ⟨rfl, rfl, rfl, rfl⟩ := h
        cases on1
        · have e := ok_off (s := ⟨false, lo1, hi1, z1⟩) h1 rfl
          simp only [St.nil_, St.mk.injEq] at e
          obtain ⟨_, rfl, rfl, rfl⟩ := e
          simp only [List.length_nil] at hn
          subst hn
          exact (absWide_i2 _ _ _ _ _ _ _ _ _ _ _ _ w hz0 hl0 hz1 hl1 ha0 ha1 h0 h1).mono fun _ _ => of_empty
        · obtain rfl : 4 = jn := (four_of_ok h1).symm.trans hn
          exact (absWide_i3 _ _ _ _ _ _ _ _ _ _ _ _ w hz0 hl0 hz1 hl1 ha0 ha1 h0 h1).mono fun _ _ => of_full
      · cases on1
        · simp only [Bool.and_self, if_true, Bool.false_eq_true, if_false, St.mk.injEq] at h
          obtain ⟨rfl, rfl, rfl, rfl⟩ := h
          obtain rfl : 4 = jn := (four_of_ok h0).symm.trans hn
          exact (absWide_i4 _ _ _ _ _ _ _ _ _ _ _ _ w hz0 hl0 hz1 hl1 ha0 ha1 h0 h1).mono fun _ _ => of_full
        · simp only [Bool.and_self, if_true, St.mk.injEq] at h
          obtain ⟨rfl, rfl, rfl, rfl⟩ := h
          obtain rfl : 4 = jn := (eachWide_len _ _).symm.trans hn
          exact (absWide_i5 _ _ _ _ _ _ _ _ _ _ _ _ w hz0 hl0 hz1 hl1 ha0 ha1 h0 h1 _ _ rfl).mono fun _ _ => of_full
    · rw [h0, h1] at h
      simp only [Bool.and_false, Bool.false_eq_true, if_false, St.nil_, St.mk.injEq] at h
      obtain ⟨rfl, rfl, rfl, rfl⟩ := h
      simp only [List.length_nil] at hn
      subst hn
      exact (absWide_i1 _ _ _ _ _ _ _ _ _ _ _ _ _ _ w hz0 hl0 hz1 hl1 ha0 ha1 h0 h1).mono fun _ _ => of_empty
  · rw [h0] at h
    simp only [Bool.false_and, Bool.false_eq_true, if_false, St.nil_, St.mk.injEq] at h
    obtain ⟨rfl, rfl, rfl, rfl⟩ := h
    simp only [List.length_nil] at hn
    subst hn
    exact (absWide_i0 _ _ _ _ _ _ _ _ _ _ _ _ _ _ w hz0 hl0 hz1 hl1 ha0 ha1 _ h0 rfl).mono fun _ _ => of_empty
theorem absWide_su {on0 : Bool} {a0 : Option Addr} {len0 cap0 : Nat} {lo0 hi0 : Int} {z0 : List (Int × Int)} {on1 : Bool} {a1 : Option Addr} {len1 cap1 : Nat} {lo1 hi1 : Int} {z1 : List (Int × Int)} {jo : Bool} {jn : Nat} {jl jh : Int} {jz : List (Int × Int)} (h : stWide ⟨on0, lo0, hi0, z0⟩ ⟨on1, lo1, hi1, z1⟩ = ⟨jo, jl, jh, jz⟩) (hn : jz.length = jn) (w : World) (hz0 : RdI w a0 len0 z0) (hl0 : len0 ≤ 1048576) (ha0 : AtHead a0 len0 cap0) (hz1 : RdI w a1 len1 z1) (hl1 : len1 ≤ 1048576) (ha1 : AtHead a1 len1 cap1) : Calls Try.prog 20 #[.agg #[.bool on0, .slice a0 len0 cap0, .int .i64 lo0, .int .i64 hi0], .agg #[.bool on1, .slice a1 len1 cap1, .int .i64 lo1, .int .i64 hi1]] w (StR w jo jn jl jh jz) := by
  unfold stWide at h
  simp only [St.ok] at h
  rcases Bool.eq_false_or_eq_true (absOk on0 z0 (lo0, hi0)) with h0 | h0
  · rcases Bool.eq_false_or_eq_true (absOk on1 z1 (lo1, hi1)) with h1 | h1
    · rw [h0, h1] at h
      cases on0
      · simp only [Bool.and_self, if_true, Bool.false_eq_true, if_false, St.mk.injEq] at h
        obtain ⟨rfl, rfl, rfl, rfl⟩ := h
        cases on1
        · have e := ok_off (s := ⟨false, lo1, hi1, z1⟩) h1 rfl
          simp only [St.nil_, St.mk.injEq] at e
          obtain ⟨_, rfl, rfl, rfl⟩ := e
          simp only [List.length_nil] at hn
          subst hn
          exact (absWide_s2 _ _ _ _ _ _ _ _ _ _ _ _ w hz0 hl0 hz1 hl1 h0 h1).mono fun _ _ => of_empty
        · obtain rfl : 4 = jn := (four_of_ok h1).symm.trans hn
          exact (absWide_s3 _ _ _ _ _ _ _ _ _ _ _ _ w hz0 hl0 hz1 hl1 ha0 ha1 h0 h1).mono fun _ _ => of_full
      · cases on1
        · simp only [Bool.and_self, if_true, Bool.false_eq_true, if_false, St.mk.injEq] at h
          obtain ⟨rfl, rfl, rfl, rfl⟩ := h
          obtain rfl : 4 = jn := (four_of_ok h0).symm.trans hn
          exact (absWide_s4 _ _ _ _ _ _ _ _ _ _ _ _ w hz0 hl0 hz1 hl1 ha0 ha1 h0 h1).mono fun _ _ => of_full
        · simp only [Bool.and_self, if_true, St.mk.injEq] at h
          obtain ⟨rfl, rfl, rfl, rfl⟩ := h
          obtain rfl : 4 = jn := (eachWide_len _ _).symm.trans hn
          exact (absWide_s5 _ _ _ _ _ _ _ _ _ _ _ _ w hz0 hl0 hz1 hl1 ha0 ha1 h0 h1 _ _ rfl).mono fun _ _ => of_full
    · rw [h0, h1] at h
      simp only [Bool.and_false, Bool.false_eq_true, if_false, St.nil_, St.mk.injEq] at h
      obtain ⟨rfl, rfl, rfl, rfl⟩ := h
      simp only [List.length_nil] at hn
      subst hn
      exact (absWide_s1 _ _ _ _ _ _ _ _ _ _ _ _ _ _ w hz0 hl0 hz1 hl1 h0 h1).mono fun _ _ => of_empty
  · rw [h0] at h
    simp only [Bool.false_and, Bool.false_eq_true, if_false, St.nil_, St.mk.injEq] at h
    obtain ⟨rfl, rfl, rfl, rfl⟩ := h
    simp only [List.length_nil] at hn
    subst hn
    exact (absWide_s0 _ _ _ _ _ _ _ _ _ _ _ _ _ _ w hz0 hl0 hz1 hl1 h0).mono fun _ _ => of_empty
theorem absOk_su {on : Bool} {a : Option Addr} {len cap : Nat} {lo hi : Int} {z : List (Int × Int)} {x : Bool} (h : St.ok ⟨on, lo, hi, z⟩ = x) (w : World) (hz : RdI w a len z) (hl : len ≤ 1048576) : Calls Try.prog 11 #[.agg #[.bool on, .slice a len cap, .int .i64 lo, .int .i64 hi]] w fun e w' => e = .returned (.bool x) ∧ Below w.heap.size w w' := absOk_sx h w hz hl
theorem absIn_iu {on0 : Bool} {a0 : Option Addr} {len0 cap0 : Nat} {lo0 hi0 : Int} {z0 : List (Int × Int)} {on1 : Bool} {a1 : Option Addr} {len1 cap1 : Nat} {lo1 hi1 : Int} {z1 : List (Int × Int)} {x : Bool} (h : absIn on0 z0 (lo0, hi0) on1 z1 (lo1, hi1) = x) (w : World) (hz0 : RdI w a0 len0 z0) (hl0 : len0 ≤ 1048576) (ha0 : AtHead a0 len0 cap0) (hz1 : RdI w a1 len1 z1) (hl1 : len1 ≤ 1048576) (ha1 : AtHead a1 len1 cap1) :
    Calls Try.prog 24 #[.agg #[.bool on0, .slice a0 len0 cap0, .int .i64 lo0, .int .i64 hi0], .agg #[.bool on1, .slice a1 len1 cap1, .int .i64 lo1, .int .i64 hi1]] w fun e w' => e = .returned (.bool x) ∧ Below w.heap.size w w' := by
  have k := absIn_i on0 a0 len0 cap0 lo0 hi0 z0 on1 a1 len1 cap1 lo1 hi1 z1 w hz0 hl0 ha0 hz1 hl1 ha1
  rw [h] at k
  exact k
end Go.Proofs.Ytdpooiiacdfpkaa
