/- Slices and nil. -/
import Derived.Test.YtcmmbnhdfkcpdaaAd
import Derived.Lib.SliceRun
namespace Go.Abs
open Go.RowKit (Below)
set_option linter.unusedVariables false
theorem swp_isnil {P : Program} {K : Exit → List AV → AHeap → Prop} {T : List AV} {h : AHeap} {s a b : Nat} {t t' elem : TypeId} {k off len es : Nat} (ha : a < T.length)
    (hu : P.underlying t = some (.slice elem)) (hs : rd T s = .c (.slice k off len es))
    (hK : ∀ bv : Bool, (len ≠ 0 → bv = false) → K .normal (setT (setT T (some a) (.c (.slice k off len es))) (some b) (.c (.bool bv))) h) :
    SWP P (.ops [⟨some a, .move (.tmp s), none⟩, ⟨some b, .binOp .eql t (.tmp a) (.const (.slice none 0 0)) t', none⟩]) K T h := by
  intro c hl
  obtain ⟨id, ops, rfl, hg, hp⟩ := lower_ops hl
  obtain ⟨l⟩ := ops
  simp only [prep] at hp
  obtain ⟨o1, o2, rfl⟩ : ∃ o1 o2, l = [o1, o2] := by
    rcases l with _ | ⟨o1, _ | ⟨o2, _ | ⟨o3, l⟩⟩⟩ <;> simp at hp
    exact ⟨_, _, rfl⟩
  focus
    simp only [List.map_cons, List.map_nil, List.cons.injEq, and_true, sop, SOp.mk.injEq] at hp
    obtain ⟨⟨d1, p1, q1⟩, d2, p2, q2⟩ := hp
    simp only [guardsOk, List.all_cons, List.all_nil, Bool.and_true, Bool.and_eq_true] at hg
    have g1 : o1.guard = none := by
      cases hh : o1.guard with
      | none => rfl
      | some p => rw [hh] at q1 hg; simp only [Option.bind_some] at q1; obtain ⟨z, hz⟩ := Option.isSome_iff_exists.1 hg.1; rw [hz] at q1; cases q1
    have g2 : o2.guard = none := by
      cases hh : o2.guard with
      | none => rfl
      | some p => rw [hh] at q2 hg; simp only [Option.bind_some] at q2; obtain ⟨z, hz⟩ := Option.isSome_iff_exists.1 hg.2; rw [hz] at q2; cases q2
    intro B μ act w ht hr
    refine wp_region ?_
    show wpOps P #[o1, o2] _ [0, 1] act w
    have hv := ht.ev (.tmp s)
    rw [ev_tmp, hs] at hv
    have step1 : (execOp act.eval o1).run P w = .ok (.value (act.eval (.tmp s))) w := by simp [execOp, p1]
    have ht1 := ht.put (some a) hv
    have hv2 := ht1.ev (.tmp a)
    rw [ev_tmp, show rd (setT T (some a) (.c (.slice k off len es))) a = .c (.slice k off len es) by rw [rd_eq, setT, List.getD_eq_getElem?_getD, List.getElem?_set, if_pos rfl, if_pos ha]; rfl] at hv2
    obtain ⟨lc, p, cap, hlc, he, hcap, hcase⟩ := hv2.c_inv
    have step2 : (execOp (act.put (some a) (act.eval (.tmp s))).eval o2).run P w = .ok (.value (.bool p.isNone)) w := by
      have e2 : (act.put (some a) (act.eval (.tmp s))).eval (.const (.slice none 0 0)) = .slice none 0 0 := rfl
      simp [execOp, p2, he, e2, eqGuard, Lib.run_eql_slice_nil w t elem p len cap 0 0 hu]
    have ht2 := ht1.put (some b) (x := .c (.bool p.isNone)) (v := .bool p.isNone) (.c rfl)
    have w1 : ∀ y, Region.wanted o1 y = true := fun y => by simp [Region.wanted, g1]
    have w2 : ∀ y, Region.wanted o2 y = true := fun y => by simp [Region.wanted, g2]
    simp only [wpOps, List.getElem?_toArray, List.getElem?_cons_zero, List.getElem?_cons_succ, w1, w2, if_true]
    refine .inl (wp_value step1 ?_)
    rw [d1]
    refine .inl (wp_value step2 ?_)
    rw [d2]
    exact ⟨μ, _, h, hK p.isNone (fun hne => by rcases hcase with ⟨h0, _⟩ | ⟨x, rfl, _⟩; exact absurd h0 hne; rfl), LMap.le_refl _, ht2, hr, Below.refl _ _⟩

theorem RepT.setSlot {μ : LMap} {T : List AV} {a : Act} (h : RepT μ T a) {s : Nat} {x : AV} (hx : RepV μ x (a.eval (.tmp s))) (hs : s < T.length) : RepT μ (T.set s x) a := by
  refine ⟨h.defers, by rw [List.length_set]; exact h.size, fun i y hi => ?_⟩
  rw [List.getElem?_set] at hi
  split at hi
  · rename_i e
    subst e
    obtain ⟨v, h1, h2⟩ := h.get s _ (List.getElem?_eq_getElem hs)
    refine ⟨v, h1, ?_⟩
    cases hi
    have : a.eval (.tmp s) = v := by simp [Act.eval, h1]
    rwa [this] at hx
  · exact h.get i y hi
/-- A nil slot becomes an empty slice at an object of its own. -/
theorem swp_nilslice {P : Program} {x : SCode} {K : Exit → List AV → AHeap → Prop} {T : List AV} {h : AHeap} {s : Nat} (es : Nat)
    (hs : rd T s = .c .nils) (hl : s < T.length) (hx : SWP P x K (T.set s (.c (.slice h.nxt 0 0 es))) (h.put h.nxt (.live ⟨[], true⟩))) : SWP P x K T h := by
  intro c hc B μ a w ht hR
  have hf := h.get_nxt
  have hv := ht.ev (.tmp s)
  rw [ev_tmp, hs] at hv
  have e : a.eval (.tmp s) = .slice none 0 0 := hv.c_inv
  have hle : μ.le (upd μ h.nxt (some ⟨0, 0, 0, false⟩)) := LMap.le_upd (hR.free _ hf)
  refine wp_mono (hx c hc B _ a w ((ht.mono hle).setSlot (x := .c (.slice h.nxt 0 0 es)) (by rw [e]; exact .c ⟨_, none, 0, upd_same _ _ _, rfl, Nat.le_refl _, .inl ⟨rfl, rfl⟩⟩) hl) (by rw [AHeap.get_put]; exact hR.phantom hf)) ?_
  rintro e a' w' ⟨μ', T', h', g1, g2, g3⟩
  exact ⟨μ', T', h', g1, LMap.le_trans hle g2, g3⟩
end Go.Abs
