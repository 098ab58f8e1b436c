/- From a contract to a walk. -/
import Derived.Test.YtgkknajopejleaaAbsQ
namespace Go.Abs
open Go.RowKit (Below)

/-- A law's contract, run: it returns true and leaves what was there alone. -/
theorem FSpec.run {P : Program} {f : FuncId} {args : List AV} {reads : List (Nat × AObj)} (h : FSpec P f args (.c (.bool true)) reads []) {μ : LMap} {G : Heap} {w : World} {vs : List Value} (hR : Rel w.heap.size μ G w) (hfin : ∃ M, ∀ k, M ≤ k → G k = .free)
    (hreads : ∀ p ∈ reads, G p.1 = .live p.2) (ha : RepVs μ args vs) : Calls P f vs.toArray w fun e w' => e = .returned (.bool true) ∧ Below w.heap.size w w' := by
  refine (h.2 w.heap.size μ G w vs hR hfin hreads (by simp) ha).mono fun e w' hk => ?_
  obtain ⟨v, μ', rfl, _, hv, _, hb⟩ := hk
  refine ⟨?_, hb⟩
  cases hv with
  | c hc => simp only [RepC] at hc; rw [hc]

theorem Rel.empty (w : World) : Rel w.heap.size (fun _ => none) (fun _ => .free) w :=
  { free := fun _ _ => rfl
    obj := fun _ _ h => Slot.noConfusion h
    inj := fun _ _ _ _ _ _ h => Slot.noConfusion h
    size := Nat.le_refl _ }

/-- A law over numbers alone. -/
theorem FSpec.run0 {P : Program} {f : FuncId} {args : List AV} (h : FSpec P f args (.c (.bool true)) [] []) {vs : List Value} (ha : RepVs (fun _ => none) args vs) (w : World) : Calls P f vs.toArray w fun e w' => e = .returned (.bool true) ∧ Below w.heap.size w w' :=
  h.run (Rel.empty w) ⟨0, fun _ _ => rfl⟩ (by simp) ha
theorem RepVs.nil {μ : LMap} : RepVs μ [] [] := trivial
theorem RepVs.int {μ : LMap} {k : IntKind} {n : Int} {as : List AV} {vs : List Value} (h : RepVs μ as vs) : RepVs μ (.c (.int k n) :: as) (.int k n :: vs) := ⟨.c rfl, h⟩
end Go.Abs
