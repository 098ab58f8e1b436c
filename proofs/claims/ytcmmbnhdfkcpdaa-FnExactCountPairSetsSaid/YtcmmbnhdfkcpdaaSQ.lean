/- A region, operation by operation. -/
import Derived.Test.YtcmmbnhdfkcpdaaRG
import Derived.Lib.AppendZeros
namespace Go.Abs
open Go.RowKit (Below)
set_option linter.unusedVariables false
def StepTo (P : Program) (s : SOp) (T : List AV) (h : AHeap) (C : List AV → AHeap → Prop) : Prop :=
  ∀ (o : Oper) (B : Nat) (μ : LMap) (a : Act) (w : World) (next : Act → World → Prop) (Q : Exit → Act → World → Prop), o.op = s.op → o.dst = s.dst → RepT μ T a → Rel B μ h.get w →
    (∀ T' h' μ' a' w', C T' h' → μ.le μ' → RepT μ' T' a' → Rel B μ' h'.get w' → Below B w w' → next a' w') → o.wp P a w next Q
def SeqP (P : Program) : List SOp → (List AV → AHeap → Prop) → List AV → AHeap → Prop
  | [], K, T, h => K T h
  | s :: l, K, T, h => s.g = none ∧ StepTo P s T h (SeqP P l K)
theorem seqp_nil {P : Program} {K : List AV → AHeap → Prop} {T : List AV} {h : AHeap} (hk : K T h) : SeqP P [] K T h := hk
theorem seqp_cons {P : Program} {s : SOp} {l : List SOp} {K : List AV → AHeap → Prop} {T : List AV} {h : AHeap} (hg : s.g = none) (hs : StepTo P s T h (SeqP P l K)) : SeqP P (s :: l) K T h := ⟨hg, hs⟩
theorem swp_seqp {P : Program} {l : List SOp} {K : Exit → List AV → AHeap → Prop} {T : List AV} {h : AHeap} (hs : SeqP P l (fun T h => K .normal T h) T h) : SWP P (.ops l) K T h := by
  intro c hl
  obtain ⟨id, ops, rfl, hg, rfl⟩ := lower_ops hl
  intro B μ a w ht hR
  refine wp_region ?_
  have key : ∀ (k i : Nat), i + k = ops.size → ∀ T h, SeqP P ((ops.toList.drop i).map (sop ops)) (fun T h => K .normal T h) T h → ∀ (μ1 : LMap) (a1 : Act) (w1 : World), μ.le μ1 → RepT μ1 T a1 → Rel B μ1 h.get w1 → Below B w w1 →
      wpOps P ops (fun e a' w' => ∃ μ' T' h', K e T' h' ∧ μ.le μ' ∧ RepT μ' T' a' ∧ Rel B μ' h'.get w' ∧ Below B w w') (List.range' i k) a1 w1 := by
    intro k
    induction k with
    | zero =>
      intro i hi T h hs μ1 a1 w1 hle ht hR hb
      rw [List.drop_of_length_le (by simp; omega)] at hs
      exact ⟨μ1, T, h, hs, hle, ht, hR, hb⟩
    | succ k ih =>
      intro i hi T h hs μ1 a1 w1 hle ht hR hb
      have hlt : i < ops.toList.length := by simp; omega
      rw [List.drop_eq_getElem_cons hlt, List.map_cons] at hs
      obtain ⟨hgn, hst⟩ := hs
      have hoi : ops[i]? = some ops.toList[i] := by simp
      have hgo : ops.toList[i].guard = none := by
        cases hh : ops.toList[i].guard with
        | none => rfl
        | some p =>
          have h1 := (List.all_eq_true.1 hg) ops.toList[i] (List.getElem_mem hlt)
          simp only [sop, hh, Option.bind_some] at hgn
          rw [hh] at h1
          obtain ⟨z, hz⟩ := Option.isSome_iff_exists.1 h1
          rw [hz] at hgn
          cases hgn
      have hwd : ∀ y, Region.wanted ops.toList[i] y = true := fun y => by simp only [Region.wanted, hgo]
      simp only [List.range'_succ, wpOps, hoi, hwd, if_true]
      refine .inl (hst ops.toList[i] B μ1 a1 w1 _ _ rfl rfl ht hR fun T' h' μ' a' w' hC h1 h2 h3 h4 => ?_)
      exact ih (i + 1) (by omega) T' h' hC μ' a' w' (LMap.le_trans hle h1) h2 h3 (hb.trans h4)
  have := key ops.size 0 (by omega) T h (by simpa [prep] using hs) μ a w (LMap.le_refl _) ht hR (Below.refl _ _)
  rwa [List.range_eq_range']
theorem step_of {P : Program} {s : SOp} {T : List AV} {h : AHeap} {C : List AV → AHeap → Prop} (hk : vOp P (.mk s.op) (ev T) h (.mk fun v _ ws => C (setT T s.dst v) (h.puts ws))) : StepTo P s T h C := by
  intro o B μ a w next Q ho hd ht hR hn
  have hk' : opE P o.op (ev T) h fun v _ ws => C (setT T s.dst v) (h.puts ws) := by rw [ho]; exact hk
  obtain ⟨v, rs, ws, h1, h2, h3, h4⟩ := opE_sound hk'
  refine h1 B μ h.get w a next Q hR h.fin h2 h3 (fun x _ => ht.ev x) fun v' μ' w' g1 g2 g3 g4 => ?_
  refine hn _ _ μ' _ w' h4 g1 ?_ (by rw [AHeap.get_puts]; exact g3) g4
  rw [hd]
  exact (ht.mono g1).put _ g2
theorem step_cap_nil {P : Program} {T : List AV} {h : AHeap} {C : List AV → AHeap → Prop} {d : Option Tmp} {x : Operand} {t elem : TypeId} (hu : P.underlying t = some (.slice elem)) (hx : ev T x = .c .nils) (hC : C (setT T d (.c (.int .i64 0))) h) :
    StepTo P ⟨d, .call ⟨.builtin .cap, #[x], #[t]⟩, none⟩ T h C := by
  intro o B μ a w next Q ho hd ht hR hn
  have hv := ht.ev x
  rw [hx] at hv
  have he : a.eval x = .slice none 0 0 := hv.c_inv
  dsimp only at ho hd
  refine wp_value (v := .int .i64 0) (w' := w) ?_ (hn _ h μ _ w hC (LMap.le_refl _) (by rw [hd]; exact ht.put _ (.c rfl)) hR (Below.refl _ _))
  simp [execOp, ho, resolve, invoke, builtin, he, Builtin.cap_, run_underlying hu, goInt]
theorem step_append_zeros {P : Program} {T : List AV} {h : AHeap} {C : List AV → AHeap → Prop} {d : Option Tmp} {x y : Operand} {t tn elem : TypeId} {kn : IntKind} {i : TypeInfo} {z : Value} (hu : P.underlying t = some (.slice elem)) (hun : P.underlying tn = some (.int kn)) (hi : P.info? elem = some i) (hz : i.zero = some z) (hsz : 0 < i.size) (hzs : z.cells.size = i.size)
    (hx : ev T x = .c .nils) {n : Nat} (hy : ev T y = .c (.int .i64 n)) (h0 : 0 < n) (h48 : n * i.bytes ≤ 281474976710656) (h63 : n ≤ 1000000000)
    (hC : C (setT T d (.c (.slice h.nxt 0 n i.size))) (h.put h.nxt (.live ⟨[], true⟩))) :
    StepTo P ⟨d, .call ⟨.builtin .append, #[x, y], #[t, tn]⟩, none⟩ T h C := by
  intro o B μ a w next Q ho hd ht hR hn
  have hv := ht.ev x
  rw [hx] at hv
  have he : a.eval x = .slice none 0 0 := hv.c_inv
  have hv2 := ht.ev y
  rw [hy] at hv2
  have he2 : a.eval y = .int .i64 n := hv2.c_inv
  dsimp only at ho hd
  have hrun := Lib.run_append_nil_zeros w t tn o.type elem i z .i64 kn hu hun hi hz n h0 hsz (by omega) h48
  have hf := hR.drew.free _ h.get_nxt
  have hal := hR.drew.alloc (k := h.nxt) h.get_nxt (Builtin.zeroCells z.cells n ++ Builtin.zeroCells z.cells (grownCap w n 0 elem - n)) elem [] (by simp)
  refine Lib.wp_append_run w x y t tn ho _ _ he he2 _ _ hrun ?_
  have hge := grownCap_ge w n 0 elem
  have hbel := ((Below.refl B w).drew).alloc hR.size (.cells (Builtin.zeroCells z.cells n ++ Builtin.zeroCells z.cells (grownCap w n 0 elem - n)) elem)
  have hC2 : (Builtin.zeroCells z.cells n ++ Builtin.zeroCells z.cells (grownCap w n 0 elem - n)).size = grownCap w n 0 elem * i.size := by
    rw [Array.size_append, size_zeroCells, size_zeroCells, hzs, ← Nat.add_mul]
    congr 1
    omega
  rw [hd]
  refine hn _ _ _ _ _ hC (LMap.le_upd (hR.free _ h.get_nxt)) ((ht.mono (LMap.le_upd (hR.free _ h.get_nxt))).put _ (.c ⟨⟨w.heap.size, 0, (Builtin.zeroCells z.cells n ++ Builtin.zeroCells z.cells (grownCap w n 0 elem - n)).size, true⟩, some ⟨w.heap.size, 0, none⟩, grownCap w n 0 elem, upd_same _ _ _, rfl, hge, .inr ⟨0, rfl, rfl, by dsimp only; rw [Nat.zero_add]; exact Nat.le_of_eq hC2.symm, .inr rfl⟩⟩)) (by rw [AHeap.get_put]; exact hal) hbel
theorem step_az {P : Program} {T : List AV} {h : AHeap} {C : List AV → AHeap → Prop} {d : Option Tmp} {x y : Operand} {t tn : TypeId} {kn : IntKind} {ti : TyI} {es eb : Nat} {ez : List Cell} (ht : tyOf P t = some ti) (hk : ti.kind = .slice es eb ez) (hez : ez.length = es) (hes : 0 < es) (hun : P.underlying tn = some (.int kn))
    (hx : ev T x = .c .nils) {n : Nat} (hy : ev T y = .c (.int .i64 n)) (h0 : 0 < n) (h48 : n * eb ≤ 281474976710656) (h63 : n ≤ 1000000000)
    (hC : C (setT T d (.c (.slice h.nxt 0 n es))) (h.put h.nxt (.live ⟨[], true⟩))) :
    StepTo P ⟨d, .call ⟨.builtin .append, #[x, y], #[t, tn]⟩, none⟩ T h C := by
  obtain ⟨_, _, _, _, _, _, _, _, _, _, hkd⟩ := tyOf_spec ht
  obtain ⟨e, ie, z, hu, hie, h1, h2, h3, h4⟩ := kind_slice (hkd.symm.trans hk)
  have h5 : z.cells.size = es := by
    have := (cellsOfL_rep (μ := fun _ => none) h4).length
    simp only [Array.length_toList] at this
    omega
  subst h1
  subst h2
  exact step_append_zeros hu hun hie h3 hes h5 hx hy h0 h48 h63 hC
@[go_sem] theorem vSlice_nil_h {P : Program} {t : TypeId} {kh : IntKind} {h : AHeap} {K : Kont} : vSlice P t (.c .nils) none (some (.c (.int kh 0))) none h (.mk K) = withTy P t (.mk fun ti => asSlice ti.kind (.mk fun _ _ _ => K (.c .nils) [] [])) := by
  apply propext; constructor
  · rintro ⟨ti, h1, h2⟩
    refine ⟨ti, h1, ?_⟩
    split at h2
    · rename_i hx _; cases hx
    · rename_i es eb ez hk hx hm
      obtain ⟨_, _, _, _, hK⟩ := h2
      exact ⟨es, eb, ez, hk, hK⟩
    all_goals first | (rename_i hx _; cases hx; done) | (rename_i hm; cases hm; done) | (rename_i _ hm; cases hm; done) | exact h2.elim
  · rintro ⟨ti, h1, es, eb, ez, hk, hK⟩
    refine ⟨ti, h1, ?_⟩
    rw [hk]
    exact ⟨.i64, kh, rfl, rfl, hK⟩
end Go.Abs
