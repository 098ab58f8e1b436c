/- What the row needs, part 11 of 17: the texts SQ, without what it does not use. -/
import Derived.Lib.AppendZeros
import Derived.Test.YtcfemdhlcjmlbaaProg
import Derived.Test.YtcfemdhlcjmlbaaLNa
import Derived.Test.YtcfemdhlcjmlbaaLNb
import Derived.Test.YtcfemdhlcjmlbaaLNc
import Derived.Test.YtcfemdhlcjmlbaaLNd
import Derived.Test.YtcfemdhlcjmlbaaLNe
/- A region, operation by operation. -/
namespace Go.Abs
open Go.RowKit (Below)
set_option linter.unusedVariables false
def StepTo (P : Program) (s : SOp) (T : List AV) (h : AHeap) (C : List AV → AHeap → Prop) : Prop :=
  ∀ (o : Oper) (B : Nat) (μ : LMap) (a : Act) (w : World) (next : Act → World → Prop) (Q : Exit → Act → World → Prop), o.op = s.op → o.dst = s.dst → RepT μ T a → Rel B μ h.get w →
    (∀ T' h' μ' a' w', C T' h' → μ.le μ' → RepT μ' T' a' → Rel B μ' h'.get w' → Below B w w' → next a' w') → o.wp P a w next Q
def SeqP (P : Program) : List SOp → (List AV → AHeap → Prop) → List AV → AHeap → Prop
  | [], K, T, h => K T h
  | s :: l, K, T, h => s.g = none ∧ StepTo P s T h (SeqP P l K)
theorem seqp_nil {P : Program} {K : List AV → AHeap → Prop} {T : List AV} {h : AHeap} (hk : K T h) : SeqP P [] K T h := hk
theorem seqp_cons {P : Program} {s : SOp} {l : List SOp} {K : List AV → AHeap → Prop} {T : List AV} {h : AHeap} (hg : s.g = none) (hs : StepTo P s T h (SeqP P l K)) : SeqP P (s :: l) K T h := ⟨hg, hs⟩
theorem swp_seqp {P : Program} {l : List SOp} {K : Exit → List AV → AHeap → Prop} {T : List AV} {h : AHeap} (hs : SeqP P l (fun T h => K .normal T h) T h) : SWP P (.ops l) K T h := by
  intro c hl
  obtain ⟨id, ops, rfl, hg, rfl⟩ := lower_ops hl
  intro B μ a w ht hR
  refine wp_region ?_
  have key : ∀ (k i : Nat), i + k = ops.size → ∀ T h, SeqP P ((ops.toList.drop i).map (sop ops)) (fun T h => K .normal T h) T h → ∀ (μ1 : LMap) (a1 : Act) (w1 : World), μ.le μ1 → RepT μ1 T a1 → Rel B μ1 h.get w1 → Below B w w1 →
      wpOps P ops (fun e a' w' => ∃ μ' T' h', K e T' h' ∧ μ.le μ' ∧ RepT μ' T' a' ∧ Rel B μ' h'.get w' ∧ Below B w w') (List.range' i k) a1 w1 := by
    intro k
    induction k with
    | zero =>
      intro i hi T h hs μ1 a1 w1 hle ht hR hb
      rw [List.drop_of_length_le (by simp; omega)] at hs
      exact ⟨μ1, T, h, hs, hle, ht, hR, hb⟩
    | succ k ih =>
      intro i hi T h hs μ1 a1 w1 hle ht hR hb
      have hlt : i < ops.toList.length := by simp; omega
      rw [List.drop_eq_getElem_cons hlt, List.map_cons] at hs
      obtain ⟨hgn, hst⟩ := hs
      have hoi : ops[i]? = some ops.toList[i] := by simp
      have hgo : ops.toList[i].guard = none := by
        cases hh : ops.toList[i].guard with
        | none => rfl
        | some p =>
          have h1 := (List.all_eq_true.1 hg) ops.toList[i] (List.getElem_mem hlt)
          simp only [sop, hh, Option.bind_some] at hgn
          rw [hh] at h1
          obtain ⟨z, hz⟩ := Option.isSome_iff_exists.1 h1
          rw [hz] at hgn
          cases hgn
      have hwd : ∀ y, Region.wanted ops.toList[i] y = true := fun y => by simp only [Region.wanted, hgo]
      simp only [List.range'_succ, wpOps, hoi, hwd, if_true]
      refine .inl (hst ops.toList[i] B μ1 a1 w1 _ _ rfl rfl ht hR fun T' h' μ' a' w' hC h1 h2 h3 h4 => ?_)
      exact ih (i + 1) (by omega) T' h' hC μ' a' w' (LMap.le_trans hle h1) h2 h3 (hb.trans h4)
  have := key ops.size 0 (by omega) T h (by simpa [prep] using hs) μ a w (LMap.le_refl _) ht hR (Below.refl _ _)
  rwa [List.range_eq_range']
theorem step_of {P : Program} {s : SOp} {T : List AV} {h : AHeap} {C : List AV → AHeap → Prop} (hk : vOp P (.mk s.op) (ev T) h (.mk fun v _ ws => C (setT T s.dst v) (h.puts ws))) : StepTo P s T h C := by
  intro o B μ a w next Q ho hd ht hR hn
  have hk' : opE P o.op (ev T) h fun v _ ws => C (setT T s.dst v) (h.puts ws) := by rw [ho]; exact hk
  obtain ⟨v, rs, ws, h1, h2, h3, h4⟩ := opE_sound hk'
  refine h1 B μ h.get w a next Q hR h.fin h2 h3 (fun x _ => ht.ev x) fun v' μ' w' g1 g2 g3 g4 => ?_
  refine hn _ _ μ' _ w' h4 g1 ?_ (by rw [AHeap.get_puts]; exact g3) g4
  rw [hd]
  exact (ht.mono g1).put _ g2
@[go_sem] theorem vSlice_nil_h {P : Program} {t : TypeId} {kh : IntKind} {h : AHeap} {K : Kont} : vSlice P t (.c .nils) none (some (.c (.int kh 0))) none h (.mk K) = withTy P t (.mk fun ti => asSlice ti.kind (.mk fun _ _ _ => K (.c .nils) [] [])) := by
  apply propext; constructor
  · rintro ⟨ti, h1, h2⟩
    refine ⟨ti, h1, ?_⟩
    split at h2
    · rename_i hx _; cases hx
    · rename_i es eb ez hk hx hm
      obtain ⟨_, _, _, _, hK⟩ := h2
      exact ⟨es, eb, ez, hk, hK⟩
    all_goals first | (rename_i hx _; cases hx; done) | (rename_i hm; cases hm; done) | (rename_i _ hm; cases hm; done) | exact h2.elim
  · rintro ⟨ti, h1, es, eb, ez, hk, hK⟩
    refine ⟨ti, h1, ?_⟩
    rw [hk]
    exact ⟨.i64, kh, rfl, rfl, hK⟩
end Go.Abs
