/-
  A state's box with its slice, carried through calls; plain facts about the join of states. No conditions but those that each theorem says.
-/
import Derived.Test.YtdpooiiacdfpkaaAv
import Derived.Test.YtdpooiiacdfpkaaOwS
namespace Go.Proofs.Ytdpooiiacdfpkaa
set_option linter.unusedSimpArgs false
set_option linter.unusedVariables false
open Go.ChangeShapes Go.WideShapes Go.ChangeAt Go.RowKit Go.Sort
/-- A state's box, with its slice. -/
def StB (W : World) (g : Nat) (on : Bool) (a : Option Addr) (len cap : Nat) (lo hi : Int) (z : List (Int × Int)) : Prop := Blk W g 29 #[.bool on, .slice a len cap, .int .i64 lo, .int .i64 hi] ∧ RdI W a len z
section
variable {w w' : World} {g : Nat} {on : Bool} {a : Option Addr} {len cap : Nat} {lo hi : Int} {z : List (Int × Int)}
theorem StB.below (h : StB w g on a len cap lo hi z) (hb : Below w.heap.size w w') : StB w' g on a len cap lo hi z := ⟨h.1.below hb, h.2.below hb⟩
theorem StB.alloc (h : StB w g on a len cap lo hi z) (o : Obj) : StB (w.alloc o) g on a len cap lo hi z := ⟨h.1.alloc o, h.2.alloc o⟩
end
theorem ok_len {s : St} (h : s.ok = true) : s.z.length ≤ 4 := by
  rcases on_or h with rfl | ⟨lo, hi, z, rfl⟩
  · exact Nat.zero_le _
  · exact Nat.le_of_eq (ok_parts h).1
theorem join_len {a b : St} {jo : Bool} {jl jh : Int} {jz : List (Int × Int)} (h : stJoin a b = ⟨jo, jl, jh, jz⟩) : jz.length ≤ 4 := by
  have := ok_len (st_join_ok a b)
  rw [h] at this
  exact this
theorem wide_len {a b : St} {jo : Bool} {jl jh : Int} {jz : List (Int × Int)} (h : stWide a b = ⟨jo, jl, jh, jz⟩) : jz.length ≤ 4 := by
  have := ok_len (st_wide_ok a b)
  rw [h] at this
  exact this
theorem join_facts {a b j : St} (h : stJoin a b = j) (ha : a.ok = true) (hb : b.ok = true) : St.inn a j = true ∧ St.inn b j = true ∧ stJoin b a = j := by
  subst h
  exact ⟨st_join_l ha hb, st_join_r ha hb, st_join_comm ha hb⟩
theorem wide_facts {a b x : St} (h : stWide a b = x) (ha : a.ok = true) (hb : b.ok = true) : St.inn a x = true ∧ St.inn b x = true ∧ St.inn (stJoin a b) x = true ∧ stWide x b = x ∧ stWide St.nil_ b = b := by
  subst h
  exact ⟨st_wide_l ha hb, st_wide_r ha hb, st_wide_join ha hb, st_wide_in (st_wide_r ha hb), stWide_nil_l hb⟩
theorem head_nil : AtHead none 0 0 := ⟨Nat.le_refl _, .inl rfl⟩
theorem rd_none (w : World) : RdI w none 0 [] := ⟨rfl, .inl rfl⟩
end Go.Proofs.Ytdpooiiacdfpkaa
