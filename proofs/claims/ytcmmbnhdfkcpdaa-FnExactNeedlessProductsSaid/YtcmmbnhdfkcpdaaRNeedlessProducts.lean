/-
  The program's NeedlessProducts returns what the reference's returns, for all arguments.
-/
import Derived.Test.YtcmmbnhdfkcpdaaRows
import Derived.WalkKit
import Derived.ProofKit
import Derived.OpenShut
import Derived.Carry
import Derived.Test.YtcmmbnhdfkcpdaaAd
import Derived.Test.YtcmmbnhdfkcpdaaOr
import Derived.Test.YtcmmbnhdfkcpdaaLNeedless
namespace Go.Proofs.Ytcmmbnhdfkcpdaa.fnExactNeedlessProducts
open Go.ChangeShapes Go.WideShapes Go.ChangeAt Go.RowKit Go.Abs
set_option linter.unusedVariables false
set_option maxRecDepth 100000


theorem walk {H : Type} {enc : TypeId × Value → H} (w : World) (a0 : Array Value) {d0 : DataW H} {p0 : List MemPlace} (h0 : DataW.Trod enc Try.prog w 0 (fun _ => true) true 49 (.agg a0) d0 p0) :
    Calls Try.prog 6 #[.agg a0] w fun e w' => e = .returned (.bool true) ∧ Below w.heap.size w w' := by
  have R0 := Rel.empty w
  have M0 : ∃ M, ∀ k, M ≤ k → (fun _ => Slot.free : Heap) k = .free := ⟨0, fun _ _ => rfl⟩
  obtain ⟨μ1, G1, l1, g1, R1, M1, x0, n0, o0, r0⟩ := open_agg (D := 4) (t := 49) (ts := [2, 2, 2, 2, 47]) (by kernel_rfl) (by kernel_rfl) h0 (fun _ => none) (fun _ => .free) R0 M0
  obtain ⟨c0_0, c0_1, c0_2, c0_3, c0_4, rfl⟩ := list5 n0
  obtain ⟨b0_0, rfl, v0_0⟩ := OkC.int Try.underlying2 (OkC.mono (HLe.refl _) _ _ _ (o0 0 2 c0_0 rfl rfl))
  obtain ⟨b0_1, rfl, v0_1⟩ := OkC.int Try.underlying2 (OkC.mono (HLe.refl _) _ _ _ (o0 1 2 c0_1 rfl rfl))
  obtain ⟨b0_2, rfl, v0_2⟩ := OkC.int Try.underlying2 (OkC.mono (HLe.refl _) _ _ _ (o0 2 2 c0_2 rfl rfl))
  obtain ⟨b0_3, rfl, v0_3⟩ := OkC.int Try.underlying2 (OkC.mono (HLe.refl _) _ _ _ (o0 3 2 c0_3 rfl rfl))
  obtain ⟨zs0_4, len0_4', rs0_4, sl0_4, rd0_4, ll0_4, lm0_4, lw0_4⟩ := OkC.ints (m := 27) (t' := 5) (k := .u8) Try.underlying47 (by kernel_rfl) (by decide) (by kernel_rfl) Try.underlying5 (OkC.mono (HLe.refl _) _ _ _ (o0 4 47 c0_4 rfl rfl))
  exact (law_need b0_0 v0_0 b0_1 v0_1 b0_2 v0_2 b0_3 v0_3 zs0_4 len0_4' sl0_4 ll0_4 lm0_4 lw0_4).run (vs := [.agg a0]) R1 M1 rd0_4 (RepVs.cons (r0.mono (LMap.le_refl _)) RepVs.nil)

theorem lifted (os : Os) (started : os.Started) (H : Type) (enc : TypeId × Value → H) :
    ReturnsInHanded {} Try.checked os 6 .any (Rows.fnExactNeedlessProductsSpec.pre6 enc Try.prog Try.f6 Rows.fnExactNeedlessProductsRow.domain false) (Rows.fnExactNeedlessProductsSpec.post enc Try.prog Try.f6 false true false false) := by
  refine returnsInHanded_of_change (C := Try.checked) own started (by kernel_rfl) Try.func6
    (ChangeSpec.witness6 (enc := enc) (C := Try.checked) false ⟨#[], #[.agg #[.int .i64 0, .int .i64 0, .int .i64 0, .int .i64 0, .slice none 0 0]], []⟩ 8 (by kernel_rfl) (by kernel_rfl) (by kernel_rfl) (by kernel_rfl)) ?_
  intro W base args ds gs before hval0 hW hcnd _
  have hval : ∀ (j : Nat) t v, Try.f6.params[j]? = some t → args[j]? = some v → Value.okWide Try.prog W .any base t v := hval0
  have hW' := hW
  obtain ⟨p, q, hA0, hV, rfl, hfz, hnd⟩ := hW
  have hA : DataW.TrodAll enc Try.prog W 0 (fun _ => true) true Try.f6.params.toList args.toList ds p := hA0
  rw [Try.params6] at hA hval
  obtain ⟨v0, vs0, d0, ds0, p0, q0, hargs, rfl, rfl, h0, r0⟩ := trodAll_cons hA
  obtain ⟨rfl, rfl, rfl⟩ := trodAll_nil r0
  obtain rfl : args = #[v0] := by cases args; simp_all
  obtain ⟨rfl, rfl⟩ := trodVars_none hV
  obtain ⟨a0, rfl, _⟩ := okWide_struct Try.underlying49 (hval 0 49 v0 rfl rfl)
  have lt0 : ∀ x ∈ p0, x.block < W.heap.size := by obtain ⟨m, hm⟩ := h0; exact DataW.trod_lt m _ _ _ hm
  clear hA0 hval0
  simp only [List.append_nil] at hW'
  refine (walk W a0 h0).mono fun e W' ⟨he, bel⟩ => ?_
  subst he
  exact ⟨_, rfl, _, _, _, [], _, [], hW', trodAll_mk1 (shut_bool Try.underlying4 _), (trodAll_cons_mk (Below.trod laidOut (by kernel_rfl) (of_decide_eq_true (by kernel_rfl)) h0 bel lt0) (trodAll_mk0)), rfl, bel.frame _, fun h => by cases h⟩

theorem facts : joinedFacts Try.prog 6 Try.f6 Rows.fnExactNeedlessProductsSpec Rows.fnExactNeedlessProductsRow = true := by
  unfold joinedFacts
  rw [laidOut, mapsR, stopsR, ordEnter, ordLifts, ordMake]
  kernel_rfl
theorem over : Rows.fnExactNeedlessProductsRow.holds Try.pinned (OpenSpec.ofChange Rows.fnExactNeedlessProductsSpec) :=
  OpenClaim.holds_of_wide 6 Try.f6 rfl rfl rfl rfl rfl rfl rfl ⟨rfl, rfl, rfl, rfl, rfl⟩ rfl rfl rfl rfl rfl (by kernel_rfl) Try.func6 facts
    (of_decide_eq_true (by kernel_rfl)) (by unfold Func.isWrapper; first | (rw [if_pos (by decide +kernel)]; kernel_rfl) | (rw [if_neg (by decide +kernel)]; exact ⟨rfl, rfl⟩))
    (fun os started H enc _ => lifted os started H enc)

theorem proved : Rows.FnExactNeedlessProductsSaid := over
#print axioms proved
end Go.Proofs.Ytcmmbnhdfkcpdaa.fnExactNeedlessProducts
