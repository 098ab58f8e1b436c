/-
  For every code, the law of the least numbers answers true: the least number of sizes is their product for small ones, and sets of fewer pairs are not completed.
-/
import Derived.Test.YtcfemdhlcjmlbaaRows
import Derived.WalkKit
import Derived.ProofKit
import Derived.OpenShut
import Derived.Carry
import Derived.Test.YtcfemdhlcjmlbaaLNq
import Derived.Test.YtcfemdhlcjmlbaaLNa
import Derived.Test.YtcfemdhlcjmlbaaLNb
import Derived.Test.YtcfemdhlcjmlbaaLNc
import Derived.Test.YtcfemdhlcjmlbaaLNd
import Derived.Test.YtcfemdhlcjmlbaaLNe
import Derived.Test.YtcfemdhlcjmlbaaLNf
import Derived.Test.YtcfemdhlcjmlbaaLNg
import Derived.Test.YtcfemdhlcjmlbaaLNh
import Derived.Test.YtcfemdhlcjmlbaaLNi
import Derived.Test.YtcfemdhlcjmlbaaLNj
import Derived.Test.YtcfemdhlcjmlbaaLNk
import Derived.Test.YtcfemdhlcjmlbaaLNl
import Derived.Test.YtcfemdhlcjmlbaaLNm
import Derived.Test.YtcfemdhlcjmlbaaLNn
import Derived.Test.YtcfemdhlcjmlbaaLNo
import Derived.Test.YtcfemdhlcjmlbaaLNp
namespace Go.Proofs.Ytcfemdhlcjmlbaa.fnLeastNumbers
open Go.ChangeShapes Go.WideShapes Go.ChangeAt Go.RowKit Go.Abs
set_option linter.unusedVariables false
set_option maxRecDepth 100000


theorem walk {H : Type} {enc : TypeId × Value → H} (w : World) (a0 : Option Addr) (len0 cap0 : Nat) {d0 : DataW H} {p0 : List MemPlace} (h0 : DataW.Trod enc Try.prog w 0 (fun _ => true) true 22 (.slice a0 len0 cap0) d0 p0) :
    Calls Try.prog 3 #[.slice a0 len0 cap0] w fun e w' => e = .returned (.bool true) ∧ Below w.heap.size w w' := by
  have R0 := Rel.empty w
  have M0 : ∃ M, ∀ k, M ≤ k → (fun _ => Slot.free : Heap) k = .free := ⟨0, fun _ _ => rfl⟩
  obtain ⟨μ1, G1, l1, g1, R1, M1, x0, o0, r0⟩ := open_cell (D := 4) (t := 22) (by kernel_rfl) rfl h0 (fun _ => none) (fun _ => .free) R0 M0
  obtain ⟨zs0, len0', rs0, sl0, rd0, ll0, lm0, lw0⟩ := OkC.ints (m := 1) (t' := 5) (k := .u8) Try.underlying22 (by kernel_rfl) (by decide) (by kernel_rfl) Try.underlying5 (OkC.mono (HLe.refl _) _ _ _ o0)
  obtain rfl : len0' = zs0.length := by omega
  exact (law_ln zs0 sl0 lm0 lw0).run (vs := [.slice a0 len0 cap0]) R1 M1 rd0 (RepVs.cons (r0.mono (LMap.le_refl _)) RepVs.nil)

theorem lifted (os : Os) (started : os.Started) (H : Type) (enc : TypeId × Value → H) :
    ReturnsInHanded {} Try.checked os 3 .any (Rows.fnLeastNumbersSpec.pre6 enc Try.prog Try.f3 Rows.fnLeastNumbersRow.domain false) (Rows.fnLeastNumbersSpec.post enc Try.prog Try.f3 false true false false) := by
  refine returnsInHanded_of_change (C := Try.checked) own started (by kernel_rfl) Try.func3
    (ChangeSpec.witness6 (enc := enc) (C := Try.checked) false ⟨#[], #[.slice none 0 0], []⟩ 8 (by kernel_rfl) (by kernel_rfl) (by kernel_rfl) (by kernel_rfl)) ?_
  intro W base args ds gs before hval0 hW hcnd _
  have hval : ∀ (j : Nat) t v, Try.f3.params[j]? = some t → args[j]? = some v → Value.okWide Try.prog W .any base t v := hval0
  have hW' := hW
  obtain ⟨p, q, hA0, hV, rfl, hfz, hnd⟩ := hW
  have hA : DataW.TrodAll enc Try.prog W 0 (fun _ => true) true Try.f3.params.toList args.toList ds p := hA0
  rw [Try.params3] at hA hval
  obtain ⟨v0, vs0, d0, ds0, p0, q0, hargs, rfl, rfl, h0, r0⟩ := trodAll_cons hA
  obtain ⟨rfl, rfl, rfl⟩ := trodAll_nil r0
  obtain rfl : args = #[v0] := by cases args; simp_all
  obtain ⟨rfl, rfl⟩ := trodVars_none hV
  obtain ⟨a0, len0, cap0, rfl⟩ := okWide_slice Try.underlying22 (hval 0 22 v0 rfl rfl)
  have lt0 : ∀ x ∈ p0, x.block < W.heap.size := by obtain ⟨m, hm⟩ := h0; exact DataW.trod_lt m _ _ _ hm
  clear hA0 hval0
  simp only [List.append_nil] at hW'
  refine (walk (H := H) (enc := enc) W a0 len0 cap0 h0).mono fun e W' ⟨he, bel⟩ => ?_
  subst he
  exact ⟨_, rfl, _, _, _, [], _, [], hW', trodAll_mk1 (shut_bool Try.underlying4 _), (trodAll_cons_mk (Below.trod laidOut (by kernel_rfl) (of_decide_eq_true (by kernel_rfl)) h0 bel lt0) (trodAll_mk0)), rfl, bel.frame _, fun h => by cases h⟩

theorem facts : joinedFacts Try.prog 3 Try.f3 Rows.fnLeastNumbersSpec Rows.fnLeastNumbersRow = true := by
  unfold joinedFacts
  rw [laidOut, mapsR, stopsR, ordEnter, ordLifts, ordMake]
  kernel_rfl
theorem over : Rows.fnLeastNumbersRow.holds Try.pinned (OpenSpec.ofChange Rows.fnLeastNumbersSpec) :=
  OpenClaim.holds_of_wide 3 Try.f3 rfl rfl rfl rfl rfl rfl rfl ⟨rfl, rfl, rfl, rfl, rfl⟩ rfl rfl rfl rfl rfl (by kernel_rfl) Try.func3 facts
    (of_decide_eq_true (by kernel_rfl)) (by unfold Func.isWrapper; first | (rw [if_pos (by decide +kernel)]; kernel_rfl) | (rw [if_neg (by decide +kernel)]; exact ⟨rfl, rfl⟩))
    (fun os started H enc _ => lifted os started H enc)

theorem proved : Rows.FnLeastNumbersSaid := over
#print axioms proved
end Go.Proofs.Ytcfemdhlcjmlbaa.fnLeastNumbers
