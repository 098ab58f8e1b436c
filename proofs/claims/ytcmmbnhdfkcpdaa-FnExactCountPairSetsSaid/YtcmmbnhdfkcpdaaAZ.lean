/- Zeros appended to a slice of one's own. -/
import Derived.Test.YtcmmbnhdfkcpdaaSQ
import Derived.Lib.AppendZerosOnto
namespace Go.Abs
open Go.RowKit (Below)
set_option linter.unusedVariables false

theorem zeroCells_one (v : Value) (n : Nat) : (Builtin.zeroCells #[v] n).toList = List.replicate n v := by
  apply List.ext_getElem
  · simp [Builtin.zeroCells]
  · intro i h1 h2
    simp [Builtin.zeroCells, Nat.mod_one]
theorem repCs_replicate {μ : LMap} {c : Cell} {v : Value} (h : RepC μ c v) : ∀ n, RepCs μ (List.replicate n c) (List.replicate n v)
  | 0 => trivial
  | n + 1 => by rw [List.replicate_succ, List.replicate_succ]; exact ⟨h, repCs_replicate h n⟩
theorem run_append_room_zeros {P : Program} (w : World) (t tn ty e : TypeId) (i : TypeInfo) (z : Value) (kq kn : IntKind) (ht : P.underlying t = some (.slice e)) (htn : P.underlying tn = some (.int kn)) (hi : P.info? e = some i) (hz : i.zero = some z) (g off sLen sCap n : Nat) (h0 : 0 < n) (hs : 0 < i.size) (h63 : n ≤ 1000000000) (h48 : n * i.bytes ≤ 281474976710656)
    (hroom : sLen + n ≤ sCap) (cur : Array Value) (el : TypeId) (hg : w.heap[g]? = some (.cells cur el (0, 0))) (hone : ∀ v ∈ (Builtin.zeroCells z.cells n).toList, v.oneCell' = true) (hfit : off + sLen * i.size + (Builtin.zeroCells z.cells n).toList.length ≤ cur.size) :
    (Builtin.append_ #[t, tn] ty #[.slice (some ⟨g, off, none⟩) sLen sCap, .int kq n]).run P w = .ok (.slice (some ⟨g, off, none⟩) (sLen + n) sCap) (w.setRow g (cur.toList.take (off + sLen * i.size) ++ (Builtin.zeroCells z.cells n).toList ++ cur.toList.drop (off + sLen * i.size + (Builtin.zeroCells z.cells n).toList.length)).toArray) := by
  have hst := run_storeCells_at P g (off + sLen * i.size) el (Builtin.zeroCells z.cells n).toList 0 cur w hg (by simpa using hfit) hone
  simp only [Nat.add_zero] at hst
  have hw : IntKind.i64.wrap (n : Int) = n := by rw [IntKind.wrap_i64]; omega
  have hneg : ¬ ((n : Int) < 0) := by omega
  have h48i : ¬ (281474976710656 < (n : Int) * (i.bytes : Int)) := by
    rw [← Int.natCast_mul]
    omega
  have hns : ¬ (n * i.size = 0) := Nat.mul_ne_zero (by omega) (by omega)
  simp [Builtin.append_, run_underlying ht, run_underlying htn, sizeOf, typeInfo, zeroValue, hi, hz, Go.asInt, Go.asIntOf, hw, hneg, hns, h48i, hroom, Addr.add_lit, hst]

theorem step_azo {P : Program} {T : List AV} {h : AHeap} {C : List AV → AHeap → Prop} {d : Option Tmp} {x y : Operand} {t tn : TypeId} {kn : IntKind} {ti : TyI} {eb : Nat} {c : Cell} (ht : tyOf P t = some ti) (hk : ti.kind = .slice 1 eb [c]) (hun : P.underlying tn = some (.int kn)) {k len : Nat} {cs : List Cell}
    (hx : ev T x = .c (.slice k 0 len 1)) (hob : h.get k = .live ⟨cs, true⟩) (hcl : cs.length = len) {n : Nat} (hy : ev T y = .c (.int .i64 n)) (h0 : 0 < n) (hb : (len + n) * eb ≤ 70368744177664) (hb2 : len + n ≤ 1000000000)
    (hC : C (setT T d (.c (.slice h.nxt 0 (len + n) 1))) (h.puts [(k, .dead), (h.nxt, .live ⟨cs ++ List.replicate n c, true⟩)])) :
    StepTo P ⟨d, .call ⟨.builtin .append, #[x, y], #[t, tn]⟩, none⟩ T h C := by
  obtain ⟨_, _, _, _, _, _, _, _, _, _, hkd⟩ := tyOf_spec ht
  obtain ⟨e, ie, z, hu, hie, hes, heb, hz, hzc⟩ := kind_slice (hkd.symm.trans hk)
  have hzr : ∀ μ : LMap, RepCs μ [c] z.cells.toList := fun μ => cellsOfL_rep hzc
  obtain ⟨v, hv⟩ : ∃ v, z.cells = #[v] := by
    have := (hzr (fun _ => none)).length
    cases hh : z.cells with
    | mk l =>
      rw [hh] at this
      simp only [List.length_singleton] at this
      obtain ⟨v, hv⟩ := List.length_eq_one_iff.1 this.symm
      exact ⟨v, by rw [← hv]⟩
  have hrv : ∀ μ : LMap, RepC μ c v := fun μ => by have := hzr μ; rw [hv] at this; exact this.1
  have hzn : (Builtin.zeroCells z.cells n).toList = List.replicate n v := by rw [hv]; exact zeroCells_one v n
  have hcb : n * eb ≤ (len + n) * eb := Nat.mul_le_mul_right _ (by omega)
  intro o B μ a w next Q ho hd htT hR hn
  have hv1 := htT.ev x
  rw [hx] at hv1
  have hv2 := htT.ev y
  rw [hy] at hv2
  have he2 : a.eval y = .int .i64 n := hv2.c_inv
  dsimp only at ho hd
  obtain ⟨l, p, cap, hl, e1, hcap, hcase⟩ := hv1.c_inv
  have hne : h.nxt ≠ k := fun e => by have := h.get_nxt; rw [e, hob] at this; cases this
  have hRk : Rel B μ (upd h.get k .dead) w := hR.kill (by rw [hob]; simp)
  have hfree' : upd h.get k .dead h.nxt = .free := by rw [upd_ne _ _ hne]; exact h.get_nxt
  have hex : ∀ v' w', (Builtin.append_ #[t, tn] o.type #[a.eval x, .int .i64 n]).run P w = .ok v' w' → (execOp a.eval o).run P w = .ok (.value v') w' := by
    intro v' w' h1
    simp [execOp, ho, resolve, invoke, builtin, he2, h1]
  have fin : ∀ (μ' : LMap) (w' : World) (v' : Value), (Builtin.append_ #[t, tn] o.type #[a.eval x, .int .i64 n]).run P w = .ok v' w' → μ.le μ' → RepV μ' (.c (.slice h.nxt 0 (len + n) 1)) v' → Rel B μ' (upd (upd h.get k .dead) h.nxt (.live ⟨cs ++ List.replicate n c, true⟩)) w' → Below B w w' → o.wp P a w next Q := by
    intro μ' w' v' h1 h2 h3 h4 h5
    refine wp_value (hex _ _ h1) (hn _ _ μ' _ w' hC h2 (by rw [hd]; exact (htT.mono h2).put _ h3) ?_ h5)
    rw [AHeap.get_puts]
    exact h4
  -- growing
  have grow : ∀ (base : Option Addr) (sCap : Nat) (olds : List Value), a.eval x = .slice base len sCap → (Builtin.firstCells ie.size len (.slice base len sCap)).run P w.drew = .ok olds.toArray w.drew → RepCs μ cs olds → olds.length = len → sCap < len + n → o.wp P a w next Q := by
    intro base sCap olds hbx hold hro hol hg
    have hgc := grownCap_ge w (len + n) sCap e
    have hfit := growslice_fits (need := len + n) (old := sCap) (bytes := ie.bytes) hg (by rw [heb]; omega)
    have hrun := Lib.run_append_grow_zeros (P := P) w t tn o.type e ie z .i64 kn hu hun hie hz base len sCap olds hold n h0 (by omega) hg (by omega) (by rw [heb]; omega) hfit
    have hR' := hRk.drew.alloc hfree' (olds.toArray ++ Builtin.zeroCells z.cells n ++ Builtin.zeroCells z.cells (grownCap w (len + n) sCap e - (len + n))) e (cs ++ List.replicate n c) (fun j y hy => by
      obtain ⟨u, hu', hr⟩ := (hro.append (repCs_replicate (hrv μ) n)).get j y hy
      refine ⟨u, ?_, hr⟩
      have hlt : j < (olds ++ List.replicate n v).length := (List.getElem?_eq_some_iff.1 hu').1
      have hsz : (olds.toArray ++ Builtin.zeroCells z.cells n).toList = olds ++ List.replicate n v := by simp [hzn]
      have hsz' : (olds.toArray ++ Builtin.zeroCells z.cells n).size = (olds ++ List.replicate n v).length := by rw [← hsz, Array.length_toList]
      rw [Array.getElem?_append_left (by rw [hsz']; exact hlt), ← Array.getElem?_toList, hsz]
      exact hu')
    refine fin _ _ _ (by rw [hbx]; exact hrun) (LMap.le_upd (hRk.free _ hfree')) (.c ⟨_, some ⟨w.heap.size, 0, none⟩, grownCap w (len + n) sCap e, upd_same _ _ _, rfl, hgc, .inr ⟨0, rfl, rfl, Nat.le_of_eq ?_, .inr rfl⟩⟩) hR' (((Below.refl _ _).drew).alloc hR.size _)
    simp only [Array.size_append, size_zeroCells, hv]
    simp only [List.size_toArray, hol]
    simp
    omega
  rcases hcase with ⟨hl0, hc0⟩ | ⟨y', hp, hr, hfit, hy'⟩
  · subst hc0
    refine grow p 0 [] e1 ?_ ?_ (by simp; omega) (by omega)
    · rw [hl0]; cases p <;> simp [Builtin.firstCells, loadCells, loadCellsFrom]
    · have : cs = [] := List.length_eq_zero_iff.1 (by omega)
      subst this; trivial
  · subst hp
    obtain ⟨l', hl', hat'⟩ := hR.obj k ⟨cs, true⟩ hob
    rw [hl] at hl'; cases hl'
    simp only [ObjAt, hr, if_true] at hat'
    obtain ⟨Cc, elem, fz, g1, g2, g3, rfl, g5⟩ := hat'
    have hold : ∃ olds : List Value, olds = (Cc.toList.drop y').take len ∧ RepCs μ cs olds ∧ olds.length = len := by
      rcases hy' with h0' | h0'
      · exact ⟨[], by rw [h0']; simp, by have : cs = [] := List.length_eq_zero_iff.1 (by omega)
                                         subst this; trivial, by rw [h0']; rfl⟩
      · subst h0'
        obtain ⟨a1, a2⟩ := reps_of_obj g3 0 len (by omega)
        rw [List.drop_zero, List.take_of_length_le (by omega)] at a1
        exact ⟨_, rfl, by simpa using a1, by simpa using a2⟩
    obtain ⟨olds, hod, hro, hol⟩ := hold
    by_cases hroom : len + n ≤ cap
    · have hfit2 : y' + (len + n) * 1 ≤ Cc.size := by
        have : (len + n) * 1 ≤ cap * 1 := Nat.mul_le_mul_right _ hroom
        omega
      have hzl : (Builtin.zeroCells z.cells n).toList.length = n := by rw [hzn, List.length_replicate]
      have hrun := run_append_room_zeros (P := P) w t tn o.type e ie z .i64 kn hu hun hie hz l.b y' len cap n h0 (by omega) (by omega) (by rw [heb]; omega) hroom Cc elem g1 (by rw [hzn]; exact (repCs_replicate (hrv μ) n).oneCell) (by rw [hzl, hes]; omega)
      rw [hzl, hzn, hes] at hrun
      have hRn := hR.rename hob rfl hl hr h.get_nxt y' cs (fun c' elem' fz' hh j u hu' => by
        rw [g1] at hh
        simp only [Option.some.injEq, Go.Obj.cells.injEq] at hh
        obtain ⟨rfl, _, _⟩ := hh
        obtain ⟨v', hv', hrv'⟩ := hro.get j u hu'
        refine ⟨v', ?_, hrv'⟩
        rw [hod, List.getElem?_take, List.getElem?_drop] at hv'
        split at hv'
        · simpa using hv'
        · cases hv')
      have hle' : μ.le (upd μ h.nxt (some ⟨l.b, y', l.E, true⟩)) := LMap.le_upd (hR.free _ h.get_nxt)
      have hRw := hRn.write (upd_same _ _ _) rfl (upd_same _ _ _) rfl (Cc.toList.take (y' + len * 1) ++ List.replicate n v ++ Cc.toList.drop (y' + len * 1 + n)).toArray
        (by simp; omega) (cs ++ List.replicate n c) (fun j u hu' => by
          simp only
          have hrep2 := (hro.append (repCs_replicate (hrv μ) n)).mono hle'
          obtain ⟨v', hv', hrv'⟩ := hrep2.get j u hu'
          refine ⟨v', ?_, hrv'⟩
          have hj : j < (olds ++ List.replicate n v).length := (List.getElem?_eq_some_iff.1 hv').1
          simp only [List.length_append, hol, List.length_replicate] at hj
          simp only [List.getElem?_toArray, List.append_assoc]
          rw [List.getElem?_append] at hv' ⊢
          have ht' : (Cc.toList.take (y' + len * 1)).length = y' + len * 1 := by simp; omega
          rw [ht']
          split at hv'
          · rename_i hj2
            rw [hol] at hj2
            rw [if_pos (by omega), List.getElem?_take, if_pos (by omega)]
            rw [hod, List.getElem?_take, List.getElem?_drop, if_pos hj2] at hv'
            exact hv'
          · rename_i hj2
            rw [hol] at hj2
            rw [if_neg (by omega), List.getElem?_append, if_pos (by rw [List.length_replicate]; omega)]
            rw [hol] at hv'
            rw [show y' + j - (y' + len * 1) = j - len from by omega]
            exact hv')
      refine fin _ _ _ (by rw [e1]; exact hrun) hle' (.c ⟨_, some ⟨l.b, y', none⟩, cap, upd_same _ _ _, rfl, hroom, .inr ⟨y', rfl, rfl, hfit, .inr rfl⟩⟩) ?_ (below_setRow _ g5)
      have hE : upd (upd (upd h.get k .dead) h.nxt (.live ⟨cs, true⟩)) h.nxt (.live ⟨cs ++ List.replicate n c, true⟩) = upd (upd h.get k .dead) h.nxt (.live ⟨cs ++ List.replicate n c, true⟩) := by
        funext j
        by_cases ej : j = h.nxt
        · subst ej; simp
        · rw [upd_ne _ _ ej, upd_ne _ _ ej, upd_ne _ _ ej]
      rw [← hE]
      exact hRw
    · have hfc : (Builtin.firstCells ie.size len (.slice (some ⟨l.b, y', none⟩) len cap)).run P w.drew = .ok olds.toArray w.drew := by
        refine run_firstCells_some (P := P) w.drew ie.size len _ len cap olds (by rw [hes]; omega) (fun j u hu' => ?_)
        rw [hod, List.getElem?_take, List.getElem?_drop] at hu'
        split at hu'
        · rw [Addr.add_lit, World.cell?_drew]
          simpa [World.cell?, g1] using hu'
        · cases hu'
      exact grow _ cap olds e1 hfc hro hol (by omega)
end Go.Abs
