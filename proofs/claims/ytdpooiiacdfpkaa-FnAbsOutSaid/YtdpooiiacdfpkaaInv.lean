/-
  A region that draws its order, by one invariant that each of its operations keeps: no order is walked twice. No conditions but those that each theorem says.
-/
import Derived.Test.YtdpooiiacdfpkaaBase
import Derived.Laws.OwnMore
import Derived.Deep.Light
import Derived.Laws.Rows
import Derived.Test.YtdpooiiacdfpkaaAbs
namespace Go.Proofs.Ytdpooiiacdfpkaa
set_option linter.unusedSimpArgs false
set_option linter.unusedVariables false
open Go.ChangeShapes Go.WideShapes Go.ChangeAt Go.RowKit


section
variable {P : Program} {ops : Array Oper} {Q : Exit → Act → World → Prop}
/-- Each edge of the region leads back in the text. -/
def backB (ops : Array Oper) : Bool := (List.range ops.size).all fun i => ((ops[i]?).map (·.after.all fun e => !Region.binds .any e || decide (e.on < i))).getD true
theorem backB_spec (hb : backB ops = true) {i : Nat} {o : Oper} (ho : ops[i]? = some o) {e : Edge} (he : e ∈ o.after) (hbd : Region.binds .any e = true) : e.on < i := by
  unfold backB at hb
  rw [List.all_eq_true] at hb
  have hi : i < ops.size := by
    rcases Nat.lt_or_ge i ops.size with h | h
    · exact h
    · rw [Array.getElem?_eq_none h] at ho; cases ho
  have h1 := hb i (List.mem_range.2 hi)
  rw [ho] at h1
  simp only [Option.map_some, Option.getD_some] at h1
  rw [Array.all_eq_true_iff_forall_mem] at h1
  have h2 := h1 e he
  simpa [hbd] using h2
/-- How many have not come up. -/
def unlisted (listed : Array Bool) : Nat := listed.toList.countP (· == false)
theorem unlisted_set {listed : Array Bool} {i : Nat} (h : listed.getD i true = false) : unlisted (listed.setIfInBounds i true) + 1 = unlisted listed := by
  unfold unlisted
  have hi : i < listed.size := by
    rcases Nat.lt_or_ge i listed.size with h' | h'
    · exact h'
    · simp [Array.getElem?_eq_none h'] at h
  rw [Array.toList_setIfInBounds]
  have hv : listed.toList[i]? = some false := by
    simp [hi] at h
    simp [hi, h]
  generalize listed.toList = l at hv
  clear h hi
  induction l generalizing i with
  | nil => simp at hv
  | cons x l ih =>
    cases i with
    | zero => simp at hv; subst hv; simp
    | succ i => simp at hv; rw [List.set_cons_succ, List.countP_cons, List.countP_cons, ← ih hv]; omega
theorem unlisted_zero {listed : Array Bool} (h : unlisted listed = 0) (i : Nat) : listed.getD i true = true := by
  unfold unlisted at h
  rw [List.countP_eq_zero] at h
  rcases Nat.lt_or_ge i listed.size with h' | h'
  · have := h listed[i] (by simp)
    simp [h'] at this ⊢
    exact this
  · simp [Array.getElem?_eq_none h']
theorem all_listed {listed : Array Bool} (hb : backB ops = true) (hs : listed.size = ops.size) (hr : Region.ready .any ops listed = []) : ∀ i, listed.getD i true = true := by
  intro i
  induction i using Nat.strongRecOn with
  | _ i ih =>
    rcases Bool.eq_false_or_eq_true (listed.getD i true) with h | h
    · exact h
    · have hi : i < listed.size := by
        rcases Nat.lt_or_ge i listed.size with h' | h'
        · exact h'
        · simp [Array.getElem?_eq_none h'] at h
      have : i ∈ Region.ready .any ops listed := mem_ready.2 ⟨h, ops[i]'(by omega), by simp [← hs, hi], fun e he hbd => by
        have h1 := backB_spec hb (i := i) (o := ops[i]'(by omega)) (by simp [← hs, hi]) he hbd
        have h2 := ih _ h1
        have h3 : e.on < listed.size := by omega
        simp [h3] at h2 ⊢
        exact h2⟩
      rw [hr] at this
      cases this
/-- What an operation must do to the invariant. -/
def StepOf (P : Program) (ops : Array Oper) (Q : Exit → Act → World → Prop) (I : Array Bool → Act → World → Prop) (i : Nat) (o : Oper) : Prop :=
  ∀ listed a w, I listed a w → listed.getD i true = false → (o.after.all fun e => !Region.binds .any e || listed.getD e.on false) = true →
    ∀ K : Act → World → Prop, Shut (∀ a' w', I (listed.setIfInBounds i true) a' w' → K a' w') → if Region.wanted o (yielded ops a.tmps) = true then Oper.wp P o a w K Q else K (a.put o.dst undef) w
/-- An operation without a guard. -/
theorem StepOf.plain {I : Array Bool → Act → World → Prop} {i : Nat} {o : Oper} (hg : o.guard = none) (h : ∀ listed a w, I listed a w → listed.getD i true = false → (o.after.all fun e => !Region.binds .any e || listed.getD e.on false) = true →
    ∀ K : Act → World → Prop, Shut (∀ a' w', I (listed.setIfInBounds i true) a' w' → K a' w') → Oper.wp P o a w K Q) : StepOf P ops Q I i o := fun listed a w hI h0 ha K hK => by
  rw [if_pos (by simp [Region.wanted, hg])]
  exact h listed a w hI h0 ha K hK
theorem wpAny_inv {I : Array Bool → Act → World → Prop} (hb : backB ops = true) (hz : ∀ listed a w, I listed a w → listed.size = ops.size)
    (hstep : ∀ i o, ops[i]? = some o → StepOf P ops Q I i o) (hend : ∀ listed a w, (∀ i, listed.getD i true = true) → I listed a w → Q .normal a w) :
    ∀ fuel listed a w, unlisted listed ≤ fuel → I listed a w → wpAny P .any ops Q fuel listed a w
  | 0, listed, a, w, hf, hI => by
    have h := unlisted_zero (Nat.le_zero.1 hf)
    refine ⟨?_, hend _ _ _ h hI⟩
    rw [List.eq_nil_iff_forall_not_mem]
    intro i hi
    have := (mem_ready.1 hi).1
    rw [h i] at this
    cases this
  | fuel + 1, listed, a, w, hf, hI => by
    refine ⟨fun hr => hend _ _ _ (all_listed hb (hz _ _ _ hI) hr) hI, fun i hi => ?_⟩
    obtain ⟨h0, o, ho, ha⟩ := mem_ready.1 hi
    refine wpOp_step ho fun K' hK => hstep i o ho listed a w hI h0 ?_ K' (fun a' w' h' => hK a' w' (wpAny_inv hb hz hstep hend fuel _ _ _ (by have := unlisted_set h0; omega) h'))
    rw [Array.all_eq_true_iff_forall_mem]
    intro e he
    by_cases hbd : Region.binds .any e = true
    · simp [hbd, ha e he hbd]
    · simp [hbd]
/-- The steps of a region that is written out. -/
def AllSteps (P : Program) (ops : Array Oper) (Q : Exit → Act → World → Prop) (I : Array Bool → Act → World → Prop) : Nat → List Oper → Prop
  | _, [] => True
  | k, o :: l => StepOf P ops Q I k o ∧ AllSteps P ops Q I (k + 1) l
theorem AllSteps.nil {I : Array Bool → Act → World → Prop} {k : Nat} : AllSteps P ops Q I k [] := trivial
theorem AllSteps.cons {I : Array Bool → Act → World → Prop} {k : Nat} {o : Oper} {l : List Oper} (h : StepOf P ops Q I k o) (hs : AllSteps P ops Q I (k + 1) l) : AllSteps P ops Q I k (o :: l) := ⟨h, hs⟩
theorem AllSteps.at {I : Array Bool → Act → World → Prop} : ∀ {k : Nat} {l : List Oper}, AllSteps P ops Q I k l → ∀ i o, l[i]? = some o → StepOf P ops Q I (k + i) o
  | _, [], _, _, _, h => by simp at h
  | k, o :: l, h, 0, o', he => by simp at he; subst he; exact h.1
  | k, o :: l, h, i + 1, o', he => by
    have := AllSteps.at h.2 i o' (by simpa using he)
    rwa [show k + 1 + i = k + (i + 1) by omega] at this
/-- A REGION THAT DRAWS ITS ORDER, BY ONE INVARIANT: each operation is walked once. -/
theorem region_inv {id : Nat} {a : Act} {w : World} {l : List Oper} (I : Array Bool → Act → World → Prop) (hm : P.follows .mixedOrders = true) (hb : backB l.toArray = true)
    (hz : ∀ listed a w, I listed a w → listed.size = l.length) (h0 : I (Array.replicate l.length false) a w.drew)
    (hs : AllSteps P l.toArray Q I 0 l) (hend : ∀ listed a w, (∀ i, listed.getD i true = true) → I listed a w → Q .normal a w) : (Code.region id l.toArray true).wp P Q a w :=
  wp_region_any hm (wpAny_inv hb (fun _ _ _ h => by simpa using hz _ _ _ h) (fun i o ho => by simpa using AllSteps.at hs i o (by simpa using ho)) hend _ _ _ _ (by
    have : unlisted (Array.replicate l.length false) ≤ l.length := by
      unfold unlisted
      exact Nat.le_trans (List.countP_le_length) (by simp)
    simpa using this) h0)
/-- The same, the invariant told by the act at the beginning. -/
theorem region_invA {id : Nat} {a : Act} {w : World} {l : List Oper} (I : Act → Array Bool → Act → World → Prop) (hm : P.follows .mixedOrders = true) (hb : backB l.toArray = true)
    (hz : ∀ listed a' w, I a listed a' w → listed.size = l.length) (h0 : I a (Array.replicate l.length false) a w.drew)
    (hs : AllSteps P l.toArray Q (I a) 0 l) (hend : ∀ listed a' w, (∀ i, listed.getD i true = true) → I a listed a' w → Q .normal a' w) : (Code.region id l.toArray true).wp P Q a w :=
  region_inv (I a) hm hb hz h0 hs hend
end
theorem Blk.far {w : World} {g : Nat} {t : TypeId} {cs : Array Value} (h : Blk w g t cs) {p : Addr} (hp : g ≠ p.block) (u : Value) : Blk (w.setCell p u) g t cs :=
  (Below.heap_setCell w p u g hp).trans h
theorem Blk.alloc {w : World} {g : Nat} {t : TypeId} {cs : Array Value} (h : Blk w g t cs) (o : Obj) : Blk (w.alloc o) g t cs := (Below.heap_alloc w o g h.lt).trans h
end Go.Proofs.Ytdpooiiacdfpkaa
