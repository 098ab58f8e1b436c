/-
  The program's CompletePairs returns what the reference's returns, for all arguments.
-/
import Derived.Test.YtcmmbnhdfkcpdaaRows
import Derived.WalkKit
import Derived.ProofKit
import Derived.OpenShut
import Derived.Carry
import Derived.Test.YtcmmbnhdfkcpdaaAd
import Derived.Test.YtcmmbnhdfkcpdaaOr
import Derived.Test.YtcmmbnhdfkcpdaaLComplete
namespace Go.Proofs.Ytcmmbnhdfkcpdaa.fnExactCompletePairs
open Go.ChangeShapes Go.WideShapes Go.ChangeAt Go.RowKit Go.Abs
set_option linter.unusedVariables false
set_option maxRecDepth 100000


theorem walk {H : Type} {enc : TypeId × Value → H} (w : World) (a0 : Int) (w0 : (Lit.int .i64 a0).wf = true) (a1 : Int) (w1 : (Lit.int .i64 a1).wf = true) (a2 : Int) (w2 : (Lit.int .i64 a2).wf = true) (a3 : Int) (w3 : (Lit.int .i64 a3).wf = true) (a4 : Option Addr) (len4 cap4 : Nat) {d4 : DataW H} {p4 : List MemPlace} (h4 : DataW.Trod enc Try.prog w 0 (fun _ => true) true 32 (.slice a4 len4 cap4) d4 p4) :
    Calls Try.prog 5 #[.int .i64 a0, .int .i64 a1, .int .i64 a2, .int .i64 a3, .slice a4 len4 cap4] w fun e w' => e = .returned (.bool true) ∧ Below w.heap.size w w' := by
  have R0 := Rel.empty w
  have M0 : ∃ M, ∀ k, M ≤ k → (fun _ => Slot.free : Heap) k = .free := ⟨0, fun _ _ => rfl⟩
  obtain ⟨μ1, G1, l1, g1, R1, M1, x4, o4, r4⟩ := open_cell (D := 4) (t := 32) (by kernel_rfl) rfl h4 (fun _ => none) (fun _ => .free) R0 M0
  obtain ⟨zs4, len4', rs4, sl4, rd4, ll4, lm4, lw4⟩ := OkC.ints (m := 18) (t' := 5) (k := .u8) Try.underlying32 (by kernel_rfl) (by decide) (by kernel_rfl) Try.underlying5 (OkC.mono (HLe.refl _) _ _ _ o4)
  exact (law_complete a0 w0 a1 w1 a2 w2 a3 w3 zs4 len4' sl4 ll4 lm4 lw4).run (vs := [.int .i64 a0, .int .i64 a1, .int .i64 a2, .int .i64 a3, .slice a4 len4 cap4]) R1 M1 rd4 (RepVs.int (RepVs.int (RepVs.int (RepVs.int (RepVs.cons (r4.mono (LMap.le_refl _)) RepVs.nil)))))

theorem lifted (os : Os) (started : os.Started) (H : Type) (enc : TypeId × Value → H) :
    ReturnsInHanded {} Try.checked os 5 .any (Rows.fnExactCompletePairsSpec.pre6 enc Try.prog Try.f5 Rows.fnExactCompletePairsRow.domain false) (Rows.fnExactCompletePairsSpec.post enc Try.prog Try.f5 false true false false) := by
  refine returnsInHanded_of_change (C := Try.checked) own started (by kernel_rfl) Try.func5
    (ChangeSpec.witness6 (enc := enc) (C := Try.checked) false ⟨#[], #[.int .i64 0, .int .i64 0, .int .i64 0, .int .i64 0, .slice none 0 0], []⟩ 8 (by kernel_rfl) (by kernel_rfl) (by kernel_rfl) (by kernel_rfl)) ?_
  intro W base args ds gs before hval0 hW hcnd _
  have hval : ∀ (j : Nat) t v, Try.f5.params[j]? = some t → args[j]? = some v → Value.okWide Try.prog W .any base t v := hval0
  have hW' := hW
  obtain ⟨p, q, hA0, hV, rfl, hfz, hnd⟩ := hW
  have hA : DataW.TrodAll enc Try.prog W 0 (fun _ => true) true Try.f5.params.toList args.toList ds p := hA0
  rw [Try.params5] at hA hval
  obtain ⟨v0, vs0, d0, ds0, p0, q0, hargs, rfl, rfl, h0, r0⟩ := trodAll_cons hA
  obtain ⟨v1, vs1, d1, ds1, p1, q1, rfl, rfl, rfl, h1, r1⟩ := trodAll_cons r0
  obtain ⟨v2, vs2, d2, ds2, p2, q2, rfl, rfl, rfl, h2, r2⟩ := trodAll_cons r1
  obtain ⟨v3, vs3, d3, ds3, p3, q3, rfl, rfl, rfl, h3, r3⟩ := trodAll_cons r2
  obtain ⟨v4, vs4, d4, ds4, p4, q4, rfl, rfl, rfl, h4, r4⟩ := trodAll_cons r3
  obtain ⟨rfl, rfl, rfl⟩ := trodAll_nil r4
  obtain rfl : args = #[v0, v1, v2, v3, v4] := by cases args; simp_all
  obtain ⟨rfl, rfl⟩ := trodVars_none hV
  obtain ⟨a0, rfl, rfl, rfl, w0⟩ := open_int Try.underlying2 (hval 0 2 v0 rfl rfl) h0
  obtain ⟨a1, rfl, rfl, rfl, w1⟩ := open_int Try.underlying2 (hval 1 2 v1 rfl rfl) h1
  obtain ⟨a2, rfl, rfl, rfl, w2⟩ := open_int Try.underlying2 (hval 2 2 v2 rfl rfl) h2
  obtain ⟨a3, rfl, rfl, rfl, w3⟩ := open_int Try.underlying2 (hval 3 2 v3 rfl rfl) h3
  obtain ⟨a4, len4, cap4, rfl⟩ := okWide_slice Try.underlying32 (hval 4 32 v4 rfl rfl)
  have lt4 : ∀ x ∈ p4, x.block < W.heap.size := by obtain ⟨m, hm⟩ := h4; exact DataW.trod_lt m _ _ _ hm
  clear hA0 hval0
  simp only [List.append_nil] at hW'
  refine (walk W a0 w0 a1 w1 a2 w2 a3 w3 a4 len4 cap4 h4).mono fun e W' ⟨he, bel⟩ => ?_
  subst he
  exact ⟨_, rfl, _, _, _, [], _, [], hW', trodAll_mk1 (shut_bool Try.underlying4 _), (trodAll_cons_mk (shut_int Try.underlying2 w0) (trodAll_cons_mk (shut_int Try.underlying2 w1) (trodAll_cons_mk (shut_int Try.underlying2 w2) (trodAll_cons_mk (shut_int Try.underlying2 w3) (trodAll_cons_mk (Below.trod laidOut (by kernel_rfl) (of_decide_eq_true (by kernel_rfl)) h4 bel lt4) (trodAll_mk0)))))), rfl, bel.frame _, fun h => by cases h⟩

theorem facts : joinedFacts Try.prog 5 Try.f5 Rows.fnExactCompletePairsSpec Rows.fnExactCompletePairsRow = true := by
  unfold joinedFacts
  rw [laidOut, mapsR, stopsR, ordEnter, ordLifts, ordMake]
  kernel_rfl
theorem over : Rows.fnExactCompletePairsRow.holds Try.pinned (OpenSpec.ofChange Rows.fnExactCompletePairsSpec) :=
  OpenClaim.holds_of_wide 5 Try.f5 rfl rfl rfl rfl rfl rfl rfl ⟨rfl, rfl, rfl, rfl, rfl⟩ rfl rfl rfl rfl rfl (by kernel_rfl) Try.func5 facts
    (of_decide_eq_true (by kernel_rfl)) (by unfold Func.isWrapper; first | (rw [if_pos (by decide +kernel)]; kernel_rfl) | (rw [if_neg (by decide +kernel)]; exact ⟨rfl, rfl⟩))
    (fun os started H enc _ => lifted os started H enc)

theorem proved : Rows.FnExactCompletePairsSaid := over
#print axioms proved
end Go.Proofs.Ytcmmbnhdfkcpdaa.fnExactCompletePairs
