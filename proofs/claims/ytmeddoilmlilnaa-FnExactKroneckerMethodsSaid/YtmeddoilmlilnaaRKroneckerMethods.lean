/-
  The program's KroneckerMethods returns what the reference's returns, for all arguments.
-/
import Derived.Test.YtmeddoilmlilnaaRows
import Derived.WalkKit
import Derived.ProofKit
import Derived.OpenShut
import Derived.Carry
import Derived.Test.YtmeddoilmlilnaaAd
import Derived.Test.YtmeddoilmlilnaaOr
import Derived.Test.YtmeddoilmlilnaaLKr
namespace Go.Proofs.Ytmeddoilmlilnaa.fnExactKroneckerMethods
open Go.ChangeShapes Go.WideShapes Go.ChangeAt Go.RowKit Go.Abs
set_option linter.unusedVariables false
set_option maxRecDepth 100000


theorem walk {H : Type} {enc : TypeId × Value → H} (w : World) (a0 : Array Value) {d0 : DataW H} {p0 : List MemPlace} (h0 : DataW.Trod enc Try.prog w 0 (fun _ => true) true 45 (.agg a0) d0 p0) (a1 : Array Value) {d1 : DataW H} {p1 : List MemPlace} (h1 : DataW.Trod enc Try.prog w 0 (fun _ => true) true 45 (.agg a1) d1 p1) :
    Calls Try.prog 5 #[.agg a0, .agg a1] w fun e w' => e = .returned (.bool true) ∧ Below w.heap.size w w' := by
  have R0 := Rel.empty w
  have M0 : ∃ M, ∀ k, M ≤ k → (fun _ => Slot.free : Heap) k = .free := ⟨0, fun _ _ => rfl⟩
  obtain ⟨μ1, G1, l1, g1, R1, M1, x0, n0, o0, r0⟩ := open_agg (D := 4) (t := 45) (ts := [2, 2, 2, 2, 22]) (by kernel_rfl) (by kernel_rfl) h0 (fun _ => none) (fun _ => .free) R0 M0
  obtain ⟨μ2, G2, l2, g2, R2, M2, x1, n1, o1, r1⟩ := open_agg (D := 4) (t := 45) (ts := [2, 2, 2, 2, 22]) (by kernel_rfl) (by kernel_rfl) h1 μ1 G1 R1 M1
  obtain ⟨c0_0, c0_1, c0_2, c0_3, c0_4, rfl⟩ := list5 n0
  obtain ⟨b0_0, rfl, v0_0⟩ := OkC.int Try.underlying2 (OkC.mono (HLe.trans g2 (HLe.refl _)) _ _ _ (o0 0 2 c0_0 rfl rfl))
  obtain ⟨b0_1, rfl, v0_1⟩ := OkC.int Try.underlying2 (OkC.mono (HLe.trans g2 (HLe.refl _)) _ _ _ (o0 1 2 c0_1 rfl rfl))
  obtain ⟨b0_2, rfl, v0_2⟩ := OkC.int Try.underlying2 (OkC.mono (HLe.trans g2 (HLe.refl _)) _ _ _ (o0 2 2 c0_2 rfl rfl))
  obtain ⟨b0_3, rfl, v0_3⟩ := OkC.int Try.underlying2 (OkC.mono (HLe.trans g2 (HLe.refl _)) _ _ _ (o0 3 2 c0_3 rfl rfl))
  obtain ⟨zs0_4, len0_4', rs0_4, sl0_4, rd0_4, ll0_4, lm0_4, lw0_4⟩ := OkC.ints (m := 27) (t' := 5) (k := .u8) Try.underlying22 (by kernel_rfl) (by decide) (by kernel_rfl) Try.underlying5 (OkC.mono (HLe.trans g2 (HLe.refl _)) _ _ _ (o0 4 22 c0_4 rfl rfl))
  obtain ⟨c1_0, c1_1, c1_2, c1_3, c1_4, rfl⟩ := list5 n1
  obtain ⟨b1_0, rfl, v1_0⟩ := OkC.int Try.underlying2 (OkC.mono (HLe.refl _) _ _ _ (o1 0 2 c1_0 rfl rfl))
  obtain ⟨b1_1, rfl, v1_1⟩ := OkC.int Try.underlying2 (OkC.mono (HLe.refl _) _ _ _ (o1 1 2 c1_1 rfl rfl))
  obtain ⟨b1_2, rfl, v1_2⟩ := OkC.int Try.underlying2 (OkC.mono (HLe.refl _) _ _ _ (o1 2 2 c1_2 rfl rfl))
  obtain ⟨b1_3, rfl, v1_3⟩ := OkC.int Try.underlying2 (OkC.mono (HLe.refl _) _ _ _ (o1 3 2 c1_3 rfl rfl))
  obtain ⟨zs1_4, len1_4', rs1_4, sl1_4, rd1_4, ll1_4, lm1_4, lw1_4⟩ := OkC.ints (m := 27) (t' := 5) (k := .u8) Try.underlying22 (by kernel_rfl) (by decide) (by kernel_rfl) Try.underlying5 (OkC.mono (HLe.refl _) _ _ _ (o1 4 22 c1_4 rfl rfl))
  exact (law_kr b0_0 v0_0 b0_1 v0_1 b0_2 v0_2 b0_3 v0_3 zs0_4 len0_4' sl0_4 ll0_4 lm0_4 lw0_4 b1_0 v1_0 b1_1 v1_1 b1_2 v1_2 b1_3 v1_3 zs1_4 len1_4' sl1_4 ll1_4 lm1_4 lw1_4).run (vs := [.agg a0, .agg a1]) R2 M2 (fun q hq => (List.mem_append.1 hq).elim (rd0_4 q) (rd1_4 q)) (RepVs.cons (r0.mono (LMap.le_trans l2 (LMap.le_refl _))) (RepVs.cons (r1.mono (LMap.le_refl _)) RepVs.nil))

theorem lifted (os : Os) (started : os.Started) (H : Type) (enc : TypeId × Value → H) :
    ReturnsInHanded {} Try.checked os 5 .any (Rows.fnExactKroneckerMethodsSpec.pre6 enc Try.prog Try.f5 Rows.fnExactKroneckerMethodsRow.domain false) (Rows.fnExactKroneckerMethodsSpec.post enc Try.prog Try.f5 false true false false) := by
  refine returnsInHanded_of_change (C := Try.checked) own started (by kernel_rfl) Try.func5
    (ChangeSpec.witness6 (enc := enc) (C := Try.checked) false ⟨#[], #[.agg #[.int .i64 0, .int .i64 0, .int .i64 0, .int .i64 0, .slice none 0 0], .agg #[.int .i64 0, .int .i64 0, .int .i64 0, .int .i64 0, .slice none 0 0]], []⟩ 8 (by kernel_rfl) (by kernel_rfl) (by kernel_rfl) (by kernel_rfl)) ?_
  intro W base args ds gs before hval0 hW hcnd _
  have hval : ∀ (j : Nat) t v, Try.f5.params[j]? = some t → args[j]? = some v → Value.okWide Try.prog W .any base t v := hval0
  have hW' := hW
  obtain ⟨p, q, hA0, hV, rfl, hfz, hnd⟩ := hW
  have hA : DataW.TrodAll enc Try.prog W 0 (fun _ => true) true Try.f5.params.toList args.toList ds p := hA0
  rw [Try.params5] at hA hval
  obtain ⟨v0, vs0, d0, ds0, p0, q0, hargs, rfl, rfl, h0, r0⟩ := trodAll_cons hA
  obtain ⟨v1, vs1, d1, ds1, p1, q1, rfl, rfl, rfl, h1, r1⟩ := trodAll_cons r0
  obtain ⟨rfl, rfl, rfl⟩ := trodAll_nil r1
  obtain rfl : args = #[v0, v1] := by cases args; simp_all
  obtain ⟨rfl, rfl⟩ := trodVars_none hV
  obtain ⟨a0, rfl, _⟩ := okWide_struct Try.underlying45 (hval 0 45 v0 rfl rfl)
  have lt0 : ∀ x ∈ p0, x.block < W.heap.size := by obtain ⟨m, hm⟩ := h0; exact DataW.trod_lt m _ _ _ hm
  obtain ⟨a1, rfl, _⟩ := okWide_struct Try.underlying45 (hval 1 45 v1 rfl rfl)
  have lt1 : ∀ x ∈ p1, x.block < W.heap.size := by obtain ⟨m, hm⟩ := h1; exact DataW.trod_lt m _ _ _ hm
  clear hA0 hval0
  simp only [List.append_nil] at hW'
  refine (walk W a0 h0 a1 h1).mono fun e W' ⟨he, bel⟩ => ?_
  subst he
  exact ⟨_, rfl, _, _, _, [], _, [], hW', trodAll_mk1 (shut_bool Try.underlying4 _), (trodAll_cons_mk (Below.trod laidOut (by kernel_rfl) (of_decide_eq_true (by kernel_rfl)) h0 bel lt0) (trodAll_cons_mk (Below.trod laidOut (by kernel_rfl) (of_decide_eq_true (by kernel_rfl)) h1 bel lt1) (trodAll_mk0))), rfl, bel.frame _, fun h => by cases h⟩

theorem facts : joinedFacts Try.prog 5 Try.f5 Rows.fnExactKroneckerMethodsSpec Rows.fnExactKroneckerMethodsRow = true := by
  unfold joinedFacts
  rw [laidOut, mapsR, stopsR, ordEnter, ordLifts, ordMake]
  kernel_rfl
theorem over : Rows.fnExactKroneckerMethodsRow.holds Try.pinned (OpenSpec.ofChange Rows.fnExactKroneckerMethodsSpec) :=
  OpenClaim.holds_of_wide 5 Try.f5 rfl rfl rfl rfl rfl rfl rfl ⟨rfl, rfl, rfl, rfl, rfl⟩ rfl rfl rfl rfl rfl (by kernel_rfl) Try.func5 facts
    (of_decide_eq_true (by kernel_rfl)) (by unfold Func.isWrapper; first | (rw [if_pos (by decide +kernel)]; kernel_rfl) | (rw [if_neg (by decide +kernel)]; exact ⟨rfl, rfl⟩))
    (fun os started H enc _ => lifted os started H enc)

theorem proved : Rows.FnExactKroneckerMethodsSaid := over
#print axioms proved
end Go.Proofs.Ytmeddoilmlilnaa.fnExactKroneckerMethods
