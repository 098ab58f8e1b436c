/- What the row needs, part 12 of 17: the texts AZ, Y7, Y12, without what it does not use. -/
import Derived.Lib.AppendZerosOnto
import Derived.Test.YtcfemdhlcjmlbaaProg
import Derived.Test.YtcfemdhlcjmlbaaLNa
import Derived.Test.YtcfemdhlcjmlbaaLNb
import Derived.Test.YtcfemdhlcjmlbaaLNc
import Derived.Test.YtcfemdhlcjmlbaaLNd
import Derived.Test.YtcfemdhlcjmlbaaLNe
import Derived.Test.YtcfemdhlcjmlbaaLNf
import Derived.Test.YtcfemdhlcjmlbaaLNg
import Derived.Test.YtcfemdhlcjmlbaaLNh
import Derived.Test.YtcfemdhlcjmlbaaLNk
/- Zeros appended to a slice of one's own. -/
namespace Go.Abs
open Go.RowKit (Below)
set_option linter.unusedVariables false

theorem zeroCells_one (v : Value) (n : Nat) : (Builtin.zeroCells #[v] n).toList = List.replicate n v := by
  apply List.ext_getElem
  · simp [Builtin.zeroCells]
  · intro i h1 h2
    simp [Builtin.zeroCells, Nat.mod_one]
theorem repCs_replicate {μ : LMap} {c : Cell} {v : Value} (h : RepC μ c v) : ∀ n, RepCs μ (List.replicate n c) (List.replicate n v)
  | 0 => trivial
  | n + 1 => by rw [List.replicate_succ, List.replicate_succ]; exact ⟨h, repCs_replicate h n⟩
theorem run_append_room_zeros {P : Program} (w : World) (t tn ty e : TypeId) (i : TypeInfo) (z : Value) (kq kn : IntKind) (ht : P.underlying t = some (.slice e)) (htn : P.underlying tn = some (.int kn)) (hi : P.info? e = some i) (hz : i.zero = some z) (g off sLen sCap n : Nat) (h0 : 0 < n) (hs : 0 < i.size) (h63 : n ≤ 1000000000) (h48 : n * i.bytes ≤ 281474976710656)
    (hroom : sLen + n ≤ sCap) (cur : Array Value) (el : TypeId) (hg : w.heap[g]? = some (.cells cur el (0, 0))) (hone : ∀ v ∈ (Builtin.zeroCells z.cells n).toList, v.oneCell' = true) (hfit : off + sLen * i.size + (Builtin.zeroCells z.cells n).toList.length ≤ cur.size) :
    (Builtin.append_ #[t, tn] ty #[.slice (some ⟨g, off, none⟩) sLen sCap, .int kq n]).run P w = .ok (.slice (some ⟨g, off, none⟩) (sLen + n) sCap) (w.setRow g (cur.toList.take (off + sLen * i.size) ++ (Builtin.zeroCells z.cells n).toList ++ cur.toList.drop (off + sLen * i.size + (Builtin.zeroCells z.cells n).toList.length)).toArray) := by
  have hst := run_storeCells_at P g (off + sLen * i.size) el (Builtin.zeroCells z.cells n).toList 0 cur w hg (by simpa using hfit) hone
  simp only [Nat.add_zero] at hst
  have hw : IntKind.i64.wrap (n : Int) = n := by rw [IntKind.wrap_i64]; omega
  have hneg : ¬ ((n : Int) < 0) := by omega
  have h48i : ¬ (281474976710656 < (n : Int) * (i.bytes : Int)) := by
    rw [← Int.natCast_mul]
    omega
  have hns : ¬ (n * i.size = 0) := Nat.mul_ne_zero (by omega) (by omega)
  simp [Builtin.append_, run_underlying ht, run_underlying htn, sizeOf, typeInfo, zeroValue, hi, hz, Go.asInt, Go.asIntOf, hw, hneg, hns, h48i, hroom, Addr.add_lit, hst]

theorem step_azo {P : Program} {T : List AV} {h : AHeap} {C : List AV → AHeap → Prop} {d : Option Tmp} {x y : Operand} {t tn : TypeId} {kn : IntKind} {ti : TyI} {eb : Nat} {c : Cell} (ht : tyOf P t = some ti) (hk : ti.kind = .slice 1 eb [c]) (hun : P.underlying tn = some (.int kn)) {k len : Nat} {cs : List Cell}
    (hx : ev T x = .c (.slice k 0 len 1)) (hob : h.get k = .live ⟨cs, true⟩) (hcl : cs.length = len) {n : Nat} (hy : ev T y = .c (.int .i64 n)) (h0 : 0 < n) (hb : (len + n) * eb ≤ 70368744177664) (hb2 : len + n ≤ 1000000000)
    (hC : C (setT T d (.c (.slice h.nxt 0 (len + n) 1))) (h.puts [(k, .dead), (h.nxt, .live ⟨cs ++ List.replicate n c, true⟩)])) :
    StepTo P ⟨d, .call ⟨.builtin .append, #[x, y], #[t, tn]⟩, none⟩ T h C := by
  obtain ⟨_, _, _, _, _, _, _, _, _, _, hkd⟩ := tyOf_spec ht
  obtain ⟨e, ie, z, hu, hie, hes, heb, hz, hzc⟩ := kind_slice (hkd.symm.trans hk)
  have hzr : ∀ μ : LMap, RepCs μ [c] z.cells.toList := fun μ => cellsOfL_rep hzc
  obtain ⟨v, hv⟩ : ∃ v, z.cells = #[v] := by
    have := (hzr (fun _ => none)).length
    cases hh : z.cells with
    | mk l =>
      rw [hh] at this
      simp only [List.length_singleton] at this
      obtain ⟨v, hv⟩ := List.length_eq_one_iff.1 this.symm
      exact ⟨v, by rw [← hv]⟩
  have hrv : ∀ μ : LMap, RepC μ c v := fun μ => by have := hzr μ; rw [hv] at this; exact this.1
  have hzn : (Builtin.zeroCells z.cells n).toList = List.replicate n v := by rw [hv]; exact zeroCells_one v n
  have hcb : n * eb ≤ (len + n) * eb := Nat.mul_le_mul_right _ (by omega)
  intro o B μ a w next Q ho hd htT hR hn
  have hv1 := htT.ev x
  rw [hx] at hv1
  have hv2 := htT.ev y
  rw [hy] at hv2
  have he2 : a.eval y = .int .i64 n := hv2.c_inv
  dsimp only at ho hd
  obtain ⟨l, p, cap, hl, e1, hcap, hcase⟩ := hv1.c_inv
  have hne : h.nxt ≠ k := fun e => by have := h.get_nxt; rw [e, hob] at this; cases this
  have hRk : Rel B μ (upd h.get k .dead) w := hR.kill (by rw [hob]; simp)
  have hfree' : upd h.get k .dead h.nxt = .free := by rw [upd_ne _ _ hne]; exact h.get_nxt
  have hex : ∀ v' w', (Builtin.append_ #[t, tn] o.type #[a.eval x, .int .i64 n]).run P w = .ok v' w' → (execOp a.eval o).run P w = .ok (.value v') w' := by
    intro v' w' h1
    simp [execOp, ho, resolve, invoke, builtin, he2, h1]
  have fin : ∀ (μ' : LMap) (w' : World) (v' : Value), (Builtin.append_ #[t, tn] o.type #[a.eval x, .int .i64 n]).run P w = .ok v' w' → μ.le μ' → RepV μ' (.c (.slice h.nxt 0 (len + n) 1)) v' → Rel B μ' (upd (upd h.get k .dead) h.nxt (.live ⟨cs ++ List.replicate n c, true⟩)) w' → Below B w w' → o.wp P a w next Q := by
    intro μ' w' v' h1 h2 h3 h4 h5
    refine wp_value (hex _ _ h1) (hn _ _ μ' _ w' hC h2 (by rw [hd]; exact (htT.mono h2).put _ h3) ?_ h5)
    rw [AHeap.get_puts]
    exact h4
  -- growing
  have grow : ∀ (base : Option Addr) (sCap : Nat) (olds : List Value), a.eval x = .slice base len sCap → (Builtin.firstCells ie.size len (.slice base len sCap)).run P w.drew = .ok olds.toArray w.drew → RepCs μ cs olds → olds.length = len → sCap < len + n → o.wp P a w next Q := by
    intro base sCap olds hbx hold hro hol hg
    have hgc := grownCap_ge w (len + n) sCap e
    have hfit := growslice_fits (need := len + n) (old := sCap) (bytes := ie.bytes) hg (by rw [heb]; omega)
    have hrun := Lib.run_append_grow_zeros (P := P) w t tn o.type e ie z .i64 kn hu hun hie hz base len sCap olds hold n h0 (by omega) hg (by omega) (by rw [heb]; omega) hfit
    have hR' := hRk.drew.alloc hfree' (olds.toArray ++ Builtin.zeroCells z.cells n ++ Builtin.zeroCells z.cells (grownCap w (len + n) sCap e - (len + n))) e (cs ++ List.replicate n c) (fun j y hy => by
      obtain ⟨u, hu', hr⟩ := (hro.append (repCs_replicate (hrv μ) n)).get j y hy
      refine ⟨u, ?_, hr⟩
      have hlt : j < (olds ++ List.replicate n v).length := (List.getElem?_eq_some_iff.1 hu').1
      have hsz : (olds.toArray ++ Builtin.zeroCells z.cells n).toList = olds ++ List.replicate n v := by simp [hzn]
      have hsz' : (olds.toArray ++ Builtin.zeroCells z.cells n).size = (olds ++ List.replicate n v).length := by rw [← hsz, Array.length_toList]
      rw [Array.getElem?_append_left (by rw [hsz']; exact hlt), ← Array.getElem?_toList, hsz]
      exact hu')
    refine fin _ _ _ (by rw [hbx]; exact hrun) (LMap.le_upd (hRk.free _ hfree')) (.c ⟨_, some ⟨w.heap.size, 0, none⟩, grownCap w (len + n) sCap e, upd_same _ _ _, rfl, hgc, .inr ⟨0, rfl, rfl, Nat.le_of_eq ?_, .inr rfl⟩⟩) hR' (((Below.refl _ _).drew).alloc hR.size _)
    simp only [Array.size_append, size_zeroCells, hv]
    simp only [List.size_toArray, hol]
    simp
    omega
  rcases hcase with ⟨hl0, hc0⟩ | ⟨y', hp, hr, hfit, hy'⟩
  · subst hc0
    refine grow p 0 [] e1 ?_ ?_ (by simp; omega) (by omega)
    · rw [hl0]; cases p <;> simp [Builtin.firstCells, loadCells, loadCellsFrom]
    · have : cs = [] := List.length_eq_zero_iff.1 (by omega)
      subst this; trivial
  · subst hp
    obtain ⟨l', hl', hat'⟩ := hR.obj k ⟨cs, true⟩ hob
    rw [hl] at hl'; cases hl'
    simp only [ObjAt, hr, if_true] at hat'
    obtain ⟨Cc, elem, fz, g1, g2, g3, rfl, g5⟩ := hat'
    have hold : ∃ olds : List Value, olds = (Cc.toList.drop y').take len ∧ RepCs μ cs olds ∧ olds.length = len := by
      rcases hy' with h0' | h0'
      · exact ⟨[], by rw [h0']; simp, by have : cs = [] := List.length_eq_zero_iff.1 (by omega)
                                         subst this; trivial, by rw [h0']; rfl⟩
      · subst h0'
        obtain ⟨a1, a2⟩ := reps_of_obj g3 0 len (by omega)
        rw [List.drop_zero, List.take_of_length_le (by omega)] at a1
        exact ⟨_, rfl, by simpa using a1, by simpa using a2⟩
    obtain ⟨olds, hod, hro, hol⟩ := hold
    by_cases hroom : len + n ≤ cap
    · have hfit2 : y' + (len + n) * 1 ≤ Cc.size := by
        have : (len + n) * 1 ≤ cap * 1 := Nat.mul_le_mul_right _ hroom
        omega
      have hzl : (Builtin.zeroCells z.cells n).toList.length = n := by rw [hzn, List.length_replicate]
      have hrun := run_append_room_zeros (P := P) w t tn o.type e ie z .i64 kn hu hun hie hz l.b y' len cap n h0 (by omega) (by omega) (by rw [heb]; omega) hroom Cc elem g1 (by rw [hzn]; exact (repCs_replicate (hrv μ) n).oneCell) (by rw [hzl, hes]; omega)
      rw [hzl, hzn, hes] at hrun
      have hRn := hR.rename hob rfl hl hr h.get_nxt y' cs (fun c' elem' fz' hh j u hu' => by
        rw [g1] at hh
        simp only [Option.some.injEq, Go.Obj.cells.injEq] at hh
        obtain ⟨rfl, _, _⟩ := hh
        obtain ⟨v', hv', hrv'⟩ := hro.get j u hu'
        refine ⟨v', ?_, hrv'⟩
        rw [hod, List.getElem?_take, List.getElem?_drop] at hv'
        split at hv'
        · simpa using hv'
        · cases hv')
      have hle' : μ.le (upd μ h.nxt (some ⟨l.b, y', l.E, true⟩)) := LMap.le_upd (hR.free _ h.get_nxt)
      have hRw := hRn.write (upd_same _ _ _) rfl (upd_same _ _ _) rfl (Cc.toList.take (y' + len * 1) ++ List.replicate n v ++ Cc.toList.drop (y' + len * 1 + n)).toArray
        (by simp; omega) (cs ++ List.replicate n c) (fun j u hu' => by
          simp only
          have hrep2 := (hro.append (repCs_replicate (hrv μ) n)).mono hle'
          obtain ⟨v', hv', hrv'⟩ := hrep2.get j u hu'
          refine ⟨v', ?_, hrv'⟩
          have hj : j < (olds ++ List.replicate n v).length := (List.getElem?_eq_some_iff.1 hv').1
          simp only [List.length_append, hol, List.length_replicate] at hj
          simp only [List.getElem?_toArray, List.append_assoc]
          rw [List.getElem?_append] at hv' ⊢
          have ht' : (Cc.toList.take (y' + len * 1)).length = y' + len * 1 := by simp; omega
          rw [ht']
          split at hv'
          · rename_i hj2
            rw [hol] at hj2
            rw [if_pos (by omega), List.getElem?_take, if_pos (by omega)]
            rw [hod, List.getElem?_take, List.getElem?_drop, if_pos hj2] at hv'
            exact hv'
          · rename_i hj2
            rw [hol] at hj2
            rw [if_neg (by omega), List.getElem?_append, if_pos (by rw [List.length_replicate]; omega)]
            rw [hol] at hv'
            rw [show y' + j - (y' + len * 1) = j - len from by omega]
            exact hv')
      refine fin _ _ _ (by rw [e1]; exact hrun) hle' (.c ⟨_, some ⟨l.b, y', none⟩, cap, upd_same _ _ _, rfl, hroom, .inr ⟨y', rfl, rfl, hfit, .inr rfl⟩⟩) ?_ (below_setRow _ g5)
      have hE : upd (upd (upd h.get k .dead) h.nxt (.live ⟨cs, true⟩)) h.nxt (.live ⟨cs ++ List.replicate n c, true⟩) = upd (upd h.get k .dead) h.nxt (.live ⟨cs ++ List.replicate n c, true⟩) := by
        funext j
        by_cases ej : j = h.nxt
        · subst ej; simp
        · rw [upd_ne _ _ ej, upd_ne _ _ ej, upd_ne _ _ ej]
      rw [← hE]
      exact hRw
    · have hfc : (Builtin.firstCells ie.size len (.slice (some ⟨l.b, y', none⟩) len cap)).run P w.drew = .ok olds.toArray w.drew := by
        refine run_firstCells_some (P := P) w.drew ie.size len _ len cap olds (by rw [hes]; omega) (fun j u hu' => ?_)
        rw [hod, List.getElem?_take, List.getElem?_drop] at hu'
        split at hu'
        · rw [Addr.add_lit, World.cell?_drew]
          simpa [World.cell?, g1] using hu'
        · cases hu'
      exact grow _ cap olds e1 hfc hro hol (by omega)
end Go.Abs
/- The basis of rows, theirs. -/
namespace Go.Proofs.Ytcfemdhlcjmlbaa
open Go Go.Abs
set_option maxRecDepth 100000

/- loop.example/g01262/spec.l10Basis -/
def c_spec_l10Basis : SFn := ⟨(.seq (.ops [⟨some 8, .assign (.const (.slice none 0 0)), none⟩, ⟨some 9, .assign (.const (.slice none 0 0)), none⟩, ⟨some 10, .assign (.const (.int .i64 0)), none⟩])
 (.seq (.ops [⟨some 23, .move (.tmp 2), none⟩, ⟨some 24, .move (.tmp 3), none⟩, ⟨some 25, .binOp .mul 2 (.tmp 23) (.tmp 24) 2, none⟩, ⟨some 26, .move (.tmp 1), none⟩, ⟨some 27, .call ⟨.builtin .len, #[.tmp 26], #[31]⟩, none⟩, ⟨some 11, .assign (.tmp 25), none⟩, ⟨some 12, .assign (.tmp 27), none⟩])
  (.seq (.ops [⟨some 28, .buildSlice 56 0 #[], none⟩, ⟨some 29, .buildSlice 36 0 #[], none⟩, ⟨some 13, .assign (.tmp 28), none⟩, ⟨some 14, .assign (.tmp 29), none⟩, ⟨some 15, .assign (.const (.int .i64 0)), none⟩])
   (.seq (.seq (.ops [⟨some 16, .assign (.const (.int .i64 0)), none⟩])
     (.block 0 (.loop (.seq (.seq (.ops [⟨some 30, .move (.tmp 16), none⟩, ⟨some 31, .move (.tmp 12), none⟩, ⟨some 32, .binOp .lss 3 (.tmp 30) (.tmp 31) 3, none⟩])
         (.cond (.tmp 32) .skip
          (.exit 0)))
        (.seq (.block 1 (.seq (.ops [⟨some 35, .move (.tmp 0), none⟩, ⟨some 36, .move (.tmp 1), none⟩, ⟨some 37, .move (.tmp 16), none⟩, ⟨some 38, .indexAddr 31 (.tmp 36) (.tmp 37), none⟩, ⟨some 39, .load 125 (.tmp 38), none⟩, ⟨some 40, .move (.tmp 2), none⟩, ⟨some 41, .move (.tmp 3), none⟩, ⟨some 42, .call ⟨.value (.func 272), #[.tmp 35, .tmp 39, .tmp 40, .tmp 41], #[2, 125, 2, 2]⟩, none⟩, ⟨some 43, .move (.tmp 12), none⟩, ⟨some 44, .call ⟨.builtin .append, #[.tmp 42, .tmp 43], #[36, 3]⟩, none⟩, ⟨some 17, .assign (.tmp 44), none⟩])
           (.seq (.ops [⟨some 45, .move (.tmp 17), none⟩, ⟨some 46, .move (.tmp 11), none⟩, ⟨some 47, .move (.tmp 16), none⟩, ⟨some 48, .binOp .add 3 (.tmp 46) (.tmp 47) 3, none⟩, ⟨some 49, .indexAddr 36 (.tmp 45) (.tmp 48), none⟩, ⟨none, .store 2 (.tmp 49) (.const (.int .i64 1)), none⟩])
            (.seq (.seq (.ops [⟨some 18, .assign (.const (.int .i64 0)), none⟩])
              (.block 2 (.loop (.seq (.seq (.ops [⟨some 50, .move (.tmp 18), none⟩, ⟨some 51, .move (.tmp 13), none⟩, ⟨some 52, .call ⟨.builtin .len, #[.tmp 51], #[56]⟩, none⟩, ⟨some 53, .binOp .lss 3 (.tmp 50) (.tmp 52) 3, none⟩])
                  (.cond (.tmp 53) .skip
                   (.exit 2)))
                 (.seq (.block 3 (.opsD [⟨some 56, .move (.tmp 0), none⟩, ⟨some 57, .move (.tmp 17), none⟩, ⟨some 58, .move (.tmp 13), none⟩, ⟨some 59, .move (.tmp 18), none⟩, ⟨some 60, .indexAddr 56 (.tmp 58) (.tmp 59), none⟩, ⟨some 61, .load 36 (.tmp 60), none⟩, ⟨some 62, .move (.tmp 17), none⟩, ⟨some 63, .move (.tmp 14), none⟩, ⟨some 64, .move (.tmp 18), none⟩, ⟨some 65, .indexAddr 36 (.tmp 63) (.tmp 64), none⟩, ⟨some 66, .load 2 (.tmp 65), none⟩, ⟨some 67, .indexAddr 36 (.tmp 62) (.tmp 66), none⟩, ⟨some 68, .load 2 (.tmp 67), none⟩, ⟨some 69, .call ⟨.value (.func 268), #[.tmp 56, .tmp 57, .tmp 61, .tmp 68], #[2, 36, 36, 2]⟩, none⟩, ⟨some 17, .assign (.tmp 69), none⟩] [(5, 10), (5, 12)]))
                  (.ops [⟨some 54, .move (.tmp 18), none⟩, ⟨some 55, .binOp .add 3 (.tmp 54) (.const (.int .i64 1)) 3, none⟩, ⟨some 18, .assign (.tmp 55), none⟩]))))))
             (.seq (.ops [⟨some 19, .assign (.const (.int .i64 0)), none⟩])
              (.seq (.block 4 (.loop (.seq (.seq (.ops [⟨some 70, .move (.tmp 19), none⟩, ⟨some 71, .move (.tmp 11), none⟩, ⟨some 72, .binOp .lss 3 (.tmp 70) (.tmp 71) 3, none⟩, ⟨some 73, .move (.tmp 72), none⟩, ⟨some 74, .move (.tmp 17), some (73, true)⟩, ⟨some 75, .move (.tmp 19), some (73, true)⟩, ⟨some 76, .indexAddr 36 (.tmp 74) (.tmp 75), some (73, true)⟩, ⟨some 77, .load 2 (.tmp 76), some (73, true)⟩, ⟨some 78, .binOp .eql 2 (.tmp 77) (.const (.int .i64 0)) 2, some (73, true)⟩, ⟨some 79, .pick (.tmp 73) (.tmp 78) (.const (.bool false)), none⟩])
                   (.cond (.tmp 79) .skip
                    (.exit 4)))
                  (.block 5 (.ops [⟨some 80, .move (.tmp 19), none⟩, ⟨some 81, .binOp .add 3 (.tmp 80) (.const (.int .i64 1)) 3, none⟩, ⟨some 19, .assign (.tmp 81), none⟩])))))
               (.seq (.seq (.ops [⟨some 82, .move (.tmp 19), none⟩, ⟨some 83, .move (.tmp 11), none⟩, ⟨some 84, .binOp .eql 3 (.tmp 82) (.tmp 83) 3, none⟩])
                 (.cond (.tmp 84) (.exit 1)
                  .skip))
                (.seq (.ops [⟨some 85, .move (.tmp 0), none⟩, ⟨some 86, .move (.tmp 17), none⟩, ⟨some 87, .move (.tmp 19), none⟩, ⟨some 88, .indexAddr 36 (.tmp 86) (.tmp 87), none⟩, ⟨some 89, .load 2 (.tmp 88), none⟩, ⟨some 90, .call ⟨.value (.func 273), #[.tmp 85, .tmp 89], #[2, 2]⟩, none⟩, ⟨some 91, .buildSlice 36 0 #[], none⟩, ⟨some 20, .assign (.tmp 90), none⟩, ⟨some 21, .assign (.tmp 91), none⟩])
                 (.seq (.seq (.ops [⟨some 22, .assign (.const (.int .i64 0)), none⟩])
                   (.block 6 (.loop (.seq (.seq (.ops [⟨some 92, .move (.tmp 22), none⟩, ⟨some 93, .move (.tmp 17), none⟩, ⟨some 94, .call ⟨.builtin .len, #[.tmp 93], #[36]⟩, none⟩, ⟨some 95, .binOp .lss 3 (.tmp 92) (.tmp 94) 3, none⟩])
                       (.cond (.tmp 95) .skip
                        (.exit 6)))
                      (.seq (.block 7 (.ops [⟨some 98, .move (.tmp 21), none⟩, ⟨some 99, .move (.tmp 17), none⟩, ⟨some 100, .move (.tmp 22), none⟩, ⟨some 101, .indexAddr 36 (.tmp 99) (.tmp 100), none⟩, ⟨some 102, .load 2 (.tmp 101), none⟩, ⟨some 103, .move (.tmp 20), none⟩, ⟨some 104, .binOp .mul 2 (.tmp 102) (.tmp 103) 2, none⟩, ⟨some 105, .move (.tmp 0), none⟩, ⟨some 106, .binOp .rem 2 (.tmp 104) (.tmp 105) 2, none⟩, ⟨some 107, .buildSlice 36 1 #[(0, .tmp 106)], none⟩, ⟨some 108, .call ⟨.builtin .append, #[.tmp 98, .tmp 107], #[36, 36]⟩, none⟩, ⟨some 21, .assign (.tmp 108), none⟩]))
                       (.ops [⟨some 96, .move (.tmp 22), none⟩, ⟨some 97, .binOp .add 3 (.tmp 96) (.const (.int .i64 1)) 3, none⟩, ⟨some 22, .assign (.tmp 97), none⟩]))))))
                  (.seq (.ops [⟨some 109, .move (.tmp 13), none⟩, ⟨some 110, .move (.tmp 21), none⟩, ⟨some 111, .buildSlice 56 1 #[(0, .tmp 110)], none⟩, ⟨some 112, .call ⟨.builtin .append, #[.tmp 109, .tmp 111], #[56, 56]⟩, none⟩, ⟨some 13, .assign (.tmp 112), none⟩])
                   (.seq (.ops [⟨some 113, .move (.tmp 14), none⟩, ⟨some 114, .move (.tmp 19), none⟩, ⟨some 115, .buildSlice 36 1 #[(0, .tmp 114)], none⟩, ⟨some 116, .call ⟨.builtin .append, #[.tmp 113, .tmp 115], #[36, 36]⟩, none⟩, ⟨some 14, .assign (.tmp 116), none⟩])
                    (.ops [⟨some 117, .move (.tmp 15), none⟩, ⟨some 118, .binOp .add 2 (.tmp 117) (.const (.int .i64 1)) 2, none⟩, ⟨some 15, .assign (.tmp 118), none⟩]))))))))))))
         (.ops [⟨some 33, .move (.tmp 16), none⟩, ⟨some 34, .binOp .add 3 (.tmp 33) (.const (.int .i64 1)) 3, none⟩, ⟨some 16, .assign (.tmp 34), none⟩]))))))
    (.seq (.ops [⟨some 119, .move (.tmp 13), none⟩, ⟨some 120, .move (.tmp 14), none⟩, ⟨some 121, .move (.tmp 15), none⟩, ⟨some 8, .assign (.tmp 119), none⟩, ⟨some 9, .assign (.tmp 120), none⟩, ⟨some 10, .assign (.tmp 121), none⟩])
     .ret))))), [.tmp 8, .tmp 9, .tmp 10], 122⟩
theorem f_spec_l10Basis : isFn Go.Proofs.Try.prog 213 = some c_spec_l10Basis := by kernel_rfl


/- loop.example/g01262/spec.RankOfPairs -/
set_option maxRecDepth 100000
set_option maxHeartbeats 16000000
set_option linter.unusedVariables false
attribute [-simp] List.getD_eq_getElem?_getD
attribute [-go_sem] confV

section
variable {P : Program} {G : Heap} {N : Nat} {L : List Slot} {T : List AV}
/-- Rows and a list handed out. -/
theorem ret_rows2 (hN : ∀ k, N ≤ k → G k = .free) (x jx y jy : Nat) (ys js : List Nat) (w : Nat) (R : List (List Int)) (lds : List Int) (hnd : (x :: y :: ys).Nodup) (hx0 : G x = .free) (hy0 : G y = .free) (hys0 : ∀ z ∈ ys, G z = .free) (hyl : ys.length = R.length) (hx : gd L jx = .live ⟨rowN N js w, true⟩) (hy : gd L jy = .live ⟨i64s lds, true⟩) (hR : Abs.Rows L js R) (hjj : (jx :: jy :: js).Nodup)
    {rs : List ResultVar} {val : AV} (vs : List AV) (hr : resAll P T ⟨G, N, L⟩ rs vs) (hp : plainT val = true) (hi : ∀ i ∈ val.idsT, i = x ∨ i = y) (he : resOf vs = renT (fun k => if k = x then nid N jx else if k = y then nid N jy else k) val) : retS P rs G N val ((x, .live ⟨rowC ys w, true⟩) :: (y, .live ⟨i64s lds, true⟩) :: rowsW ys R) .ret T ⟨G, N, L⟩ := by
  have hjl := hR.len
  obtain ⟨e1, e2⟩ := rowsN_1 hyl hjl
  have hW := rowsN_W (R := R) (hyl.trans hjl.symm)
  let ns : List (Nat × Nat × List Cell) := (x, jx, rowC ys w) :: (y, jy, i64s lds) :: rowsN ys js R
  have hns : newsW ns = (x, .live ⟨rowC ys w, true⟩) :: (y, .live ⟨i64s lds, true⟩) :: rowsW ys R := by rw [← hW]; rfl
  have n1 : ns.map (·.1) = x :: y :: ys := by simp [ns, e1]
  have n2 : ns.map (·.2.1) = jx :: jy :: js := by simp [ns, e2]
  have hat : ∀ i, i < R.length → nameOf N ns (ys.getD i 0) = nid N (js.getD i 0) := fun i hi =>
    (putsG_new_at (N := N) (fun _ => .free) (by rw [n1]; exact hnd) _ (List.mem_cons_of_mem _ (List.mem_cons_of_mem _ (rowsN_get hyl hjl i hi)))).2
  rw [← hns]
  refine ret_news hN ns (by rw [n1]; exact hnd) (by rw [n2]; exact hjj) (fun e he => ?_) (fun e he => ?_) (fun e he c hc i hi' => ?_) vs hr ?_
  · rcases List.mem_cons.1 he with rfl | he
    · exact hx0
    · rcases List.mem_cons.1 he with rfl | he
      · exact hy0
      · obtain ⟨i, h1, rfl⟩ := rowsN_mem hyl hjl e he
        exact hys0 _ (getD_mem (by omega))
  · rcases List.mem_cons.1 he with rfl | he
    · rw [hx, rowC_eq (hyl.trans hjl.symm) fun i hi => hat i (by omega)]
    · rcases List.mem_cons.1 he with rfl | he
      · rw [map_flat (flat64 _)]; exact hy
      · obtain ⟨i, h1, rfl⟩ := rowsN_mem hyl hjl e he
        rw [map_flat (flat64 _)]
        exact hR.at_ i h1
  · rw [n1]
    rcases List.mem_cons.1 he with rfl | he
    · simp only [rowC, List.mem_map] at hc
      obtain ⟨z, hz, rfl⟩ := hc
      simp only [Cell.ids, List.mem_singleton] at hi'
      subst hi'
      exact List.mem_cons_of_mem _ (List.mem_cons_of_mem _ hz)
    · rcases List.mem_cons.1 he with rfl | he
      · rw [flat64 _ c hc] at hi'; cases hi'
      · obtain ⟨t, h1, rfl⟩ := rowsN_mem hyl hjl e he
        rw [flat64 _ c hc] at hi'
        cases hi'
  · have hne : x ≠ y := fun e => (List.nodup_cons.1 hnd).1 (e ▸ List.mem_cons_self)
    rw [he, ← renT_congr (σ := nameOf N ns) fun i hh => ?_]
    · exact Named.of hp fun i hh => by
        rw [n1]
        rcases hi i hh with rfl | rfl
        · exact List.mem_cons_self
        · exact List.mem_cons_of_mem _ List.mem_cons_self
    · rcases hi i hh with rfl | rfl
      · simp [ns, nameOf]
      · simp [ns, nameOf, hne, Ne.symm hne]
end
/-- The first numbers of a row times b. -/
def mulP (p b : Int) (u : List Int) (t : Nat) : List Int := (List.range t).map fun j => (u.getD j 0 * b).tmod p
theorem mulP_length (p b : Int) (u : List Int) (t : Nat) : (mulP p b u t).length = t := by simp [mulP]
theorem mulP_succ (p b : Int) (u : List Int) (t : Nat) : mulP p b u (t + 1) = mulP p b u t ++ [(u.getD t 0 * b).tmod p] := by simp [mulP, List.range_succ]
theorem mulP_full (p b : Int) (u : List Int) : mulP p b u u.length = svMul p b u u.length := list_ext_getD (by rw [mulP_length, svMul_length]) fun j hj => by
  rw [mulP_length] at hj
  rw [svMul_get hj, if_pos hj]
  simp [mulP, List.getD_eq_getElem?_getD, hj]
theorem undIntY : Try.prog.underlying 3 = some (.int .i64) := by kernel_rfl
/-- What holds of the basis so far. -/
structure BaI (N : Nat) (w : Nat) (z : List (List Int) × List Int) (L : List Slot) (mm ml : Nat) (js : List Nat) : Prop where
  h1 : mm < L.length
  h2 : mm ∉ js
  h3 : gd L mm = .live ⟨rowN N js w, true⟩
  h4 : Abs.Rows L js z.1
  h5 : ml < L.length
  h6 : ml ≠ mm
  h7 : ml ∉ js
  h8 : gd L ml = .live ⟨i64s z.2, true⟩
theorem BaI.ext {N w : Nat} {z : List (List Int) × List Int} {L L' : List Slot} {mm ml : Nat} {js : List Nat} (h : BaI N w z L mm ml js) (hl : L.length ≤ L'.length) (hg : ∀ j, j < L.length → gd L' j = gd L j) : BaI N w z L' mm ml js :=
  ⟨by have := h.h1; omega, h.h2, by rw [hg _ h.h1]; exact h.h3, h.h4.ext hl fun j hj => hg j (h.h4.lt j hj), by have := h.h5; omega, h.h6, h.h7, by rw [hg _ h.h5]; exact h.h8⟩
theorem l10Basis_spec {p : Int} {na nb n r : Nat} {c : Cell} {rs : List (Nat × AObj)} {l : List Int} (hP : isP p = true) (ha : na ≤ 9) (hb : nb ≤ 9) (hn : na * nb = n) (hn0 : 0 < n) (hc : Sl 18 (u8s l) r c rs) (hl : l.length = r * 18) (hr1 : r ≤ 30) (hby : byteL l) (hmod : modL p l)
    (x y : Nat) (ys : List Nat) (hnd : (x :: y :: ys).Nodup) (hyl : ys.length = (bsL p na nb l n r r).1.length) (hx : ∀ q ∈ rs, q.1 ≠ x ∧ q.1 ≠ y ∧ q.1 ∉ ys) :
    FSpec Try.prog 213 [.c (.int .i64 (p)), .c c, .c (.int .i64 ((na : Nat) : Int)), .c (.int .i64 ((nb : Nat) : Int))] (.tup [.c (.slice x 0 (bsL p na nb l n r r).1.length 1), .c (.slice y 0 (bsL p na nb l n r r).1.length 1), .c (.int .i64 (((bsL p na nb l n r r).1.length : Nat) : Int))]) rs ((x, .live ⟨rowC ys (n + r), true⟩) :: (y, .live ⟨i64s (bsL p na nb l n r r).2, true⟩) :: rowsW ys (bsL p na nb l n r r).1) := by
  have hp : 2 ≤ p ∧ p ≤ 5 := by simp [isP] at hP; omega
  have hn81 : n ≤ 9 * 9 := by rw [← hn]; exact Nat.mul_le_mul ha hb
  have e0 : ((na : Nat) : Int) * ((nb : Nat) : Int) = ((n : Nat) : Int) := by rw [← hn]; rfl
  refine FSpec.of f_spec_l10Basis (Nat.le_of_ble_eq_true rfl) fun G N hN hr hw => ?_
  simp only [c_spec_l10Basis, List.length_cons, List.length_nil, List.replicate, List.cons_append, List.nil_append]
  have fx : G x = .free := new_free (hw _ List.mem_cons_self).2 fun q hq => (hx q hq).1
  have fy : G y = .free := new_free (hw _ (List.mem_cons_of_mem _ List.mem_cons_self)).2 fun q hq => (hx q hq).2.1
  have fys : ∀ z ∈ ys, G z = .free := (rows_freeK (cs := rowC ys (n + r)) (x := x) (rs := rs) hyl (fun q hq => by
    rcases List.mem_cons.1 hq with rfl | hq
    · exact hw _ List.mem_cons_self
    · exact hw _ (List.mem_cons_of_mem _ (List.mem_cons_of_mem _ hq))) fun q hq => ⟨(hx q hq).1, (hx q hq).2.2⟩).2
  repeat' (first | (with_reducible first | refine W1 ?_ | refine W2 ?_ | refine W3 ?_ | refine W4 mixed ?_ | refine W5 ?_ | refine W6 ?_ | refine W7 ?_ | refine W8 ?_ | refine W9 ?_ | refine V1 ?_ | refine V2 ?_ | refine V3 ?_ | refine V4 (by decide) ?_ | refine V5 ?_ | refine V6 ?_ | refine V7 ?_ | refine V8 ?_ | refine V9 ?_ | refine U1 ?_ | refine U2 ?_ | refine U3 ?_) | (with_reducible refine U4 ?_ ?_; next => first | omega | exact ⟨trivial, by omega⟩) | simp (maxSteps := 2000000) (discharger := first | omega | (simp (discharger := omega) only [Z1, Z2, Z3, Z4, Z5, Z6, Z7] <;> fail) | (simp (discharger := omega) only [Z3, Z8, Z2, Z4, Z1, Z7, Z5, Z6, Z9, Y1, Y2]; omega)) only [go_sem, e0, hc.len (P := Try.prog)])
  refine swp_for (fun (z : Nat × List Slot × Nat × Nat × List Nat) => ([.c (.int .i64 (p)), .c c, .c (.int .i64 ((na : Nat) : Int)), .c (.int .i64 ((nb : Nat) : Int))] ++ List.replicate 7 .any ++ [.c (.int .i64 ((n : Nat) : Int)), .c (.int .i64 ((r : Nat) : Int)), .c (.slice (nid N z.2.2.1) 0 (bsL p na nb l n r z.1).1.length 1), .c (.slice (nid N z.2.2.2.1) 0 (bsL p na nb l n r z.1).1.length 1), .c (.int .i64 (((bsL p na nb l n r z.1).1.length : Nat) : Int)), .c (.int .i64 ((z.1 : Nat) : Int))] ++ List.replicate 105 .any)) (fun z => ⟨G, N, z.2.1⟩) (fun z => r - z.1) (fun z => z.1 ≤ r ∧ BaI N (n + r) (bsL p na nb l n r z.1) z.2.1 z.2.2.1 z.2.2.2.1 z.2.2.2.2) (0, _, 0, 1, []) ⟨Nat.zero_le _, ⟨by simp, by simp, rfl, Abs.Rows.nil, by simp, by simp, by simp, rfl⟩⟩ rfl (by repeat' (first | exact trivial | exact .inl rfl | exact .inr rfl | refine ⟨?_, ?_⟩)) ?_
  rintro ⟨i, L, mm, ml, js⟩ ⟨hi, hB⟩
  dsimp only at hi hB
  have hI := bsL_inv (na := na) (nb := nb) (n := n) (r := r) hP hmod i hi
  have hst : bsL p na nb l n r (i + 1) = bsStep p na nb l n r (bsL p na nb l n r i) i := rfl
  have hend : i = r → bsL p na nb l n r r = bsL p na nb l n r i := fun e => by rw [e]
  generalize bsL p na nb l n r i = z at hB hI hst hend
  obtain ⟨rows, leads⟩ := z
  simp only [List.replicate, List.cons_append, List.nil_append]
  repeat' (first | (with_reducible first | refine W1 ?_ | refine W2 ?_ | refine W3 ?_ | refine W4 mixed ?_ | refine W5 ?_ | refine W6 ?_ | refine W7 ?_ | refine W8 ?_ | refine W9 ?_ | refine V1 ?_ | refine V2 ?_ | refine V3 ?_ | refine V4 (by decide) ?_ | refine V5 ?_ | refine V6 ?_ | refine V7 ?_ | refine V8 ?_ | refine V9 ?_ | refine U1 ?_ | refine U2 ?_ | refine U3 ?_) | (with_reducible refine U4 ?_ ?_; next => first | omega | exact ⟨trivial, by omega⟩) | simp (maxSteps := 2000000) (discharger := first | omega | (simp (discharger := omega) only [Z1, Z2, Z3, Z4, Z5, Z6, Z7] <;> fail) | (simp (discharger := omega) only [Z3, Z8, Z2, Z4, Z1, Z7, Z5, Z6, Z9, Y1, Y2]; omega)) only [go_sem])
  refine swp_cond _ rfl (fun h => ?_) (fun h => ?_)
  · have hlt : i < r := by simpa using h
    clear h
    obtain ⟨k0, own, rfl, rfl, _⟩ := hc.some hlt
    have ⟨g2, g3⟩ := hr _ (List.mem_singleton.2 rfl)
    dsimp only at g2 g3
    have hql : (sub l (i * 18) 18).length = 18 := sub_length (by omega)
    have hqb : byteL (sub l (i * 18) 18) := hby.sub _ _
    generalize hqd : sub l (i * 18) 18 = q at hql hqb
    repeat' (first | (with_reducible first | refine W1 ?_ | refine W2 ?_ | refine W5 ?_ | refine W6 ?_ | refine W7 ?_ | refine W8 ?_ | refine W9 ?_ | refine V1 ?_ | refine V2 ?_ | refine V3 ?_ | refine V4 (by decide) ?_ | refine U1 ?_ | refine U2 ?_ | refine U3 ?_) | with_reducible refine swp_seqp ?_ | with_reducible refine seqp_cons rfl (step_of ?_) | with_reducible refine seqp_nil ?_ | (with_reducible refine U4 ?_ ?_; next => first | omega | exact ⟨trivial, by omega⟩) | simp (maxSteps := 2000000) (discharger := first | omega | (simp (discharger := omega) only [Z1, Z2, Z3, Z4, Z5, Z6, Z7] <;> fail) | (simp (discharger := omega) only [Z3, Z8, Z2, Z4, Z1, Z7, Z5, Z6, Z9, Y1, Y2]; omega)) only [go_sem, g2, hqd, setT_some])
    have hT := fun y => l10Table_spec (l := l) (j := i) hp ha hb hqd.symm hql hqb y
    have htl := tabL_length p na nb l i n
    have hrow : i64s (tabL p na nb l i n) ++ List.replicate r (.int .i64 0) = i64s (tabL p na nb l i n ++ List.replicate r 0) := by simp [i64s]
    have hbr : bsRow p na nb l n r i = (tabL p na nb l i n ++ List.replicate r 0).set (n + i) 1 := rfl
    rw [hn] at hT
    refine call_new1 (rs := []) (fun y _ => hT y) (by simp) nxt_free ?_
    have h1 := hB.h1
    have h5 := hB.h5
    have hgt : (⟨G, N, setAt L L.length (.live ⟨i64s (tabL p na nb l i n), true⟩)⟩ : AHeap).get (nid N L.length) = .live ⟨i64s (tabL p na nb l i n), true⟩ := by rw [get_new]; exact gd_setAt_same
    have htl' : (i64s (tabL p na nb l i n)).length = n := by rw [i64s_length]; exact htl
    generalize tabL p na nb l i n = tb at htl htl' hrow hbr hgt ⊢
    have e5 : (((n : Nat) : Int) + ((i : Nat) : Int)).toNat = n + i := by omega
    have hrl : (tb ++ List.replicate r (0 : Int)).length = n + r := by simp [htl]
    repeat' (first | (with_reducible first | refine W1 ?_ | refine W2 ?_ | refine W5 ?_ | refine W6 ?_ | refine W7 ?_ | refine W8 ?_ | refine W9 ?_ | refine V1 ?_ | refine V2 ?_ | refine V3 ?_ | refine V4 (by decide) ?_ | refine U1 ?_ | refine U2 ?_ | refine U3 ?_) | with_reducible refine swp_seqp ?_ | with_reducible refine seqp_cons rfl (step_azo (cs := i64s tb) tyo_36 rfl undIntY rfl hgt htl' rfl (by omega) (by omega) (by omega) ?_) | with_reducible refine seqp_cons rfl (step_of ?_) | with_reducible refine seqp_nil ?_ | (with_reducible refine U4 ?_ ?_; next => first | omega | exact ⟨trivial, by omega⟩) | simp (maxSteps := 2000000) (discharger := first | omega | (simp (discharger := omega) only [Z1, Z2, Z3, Z4, Z5, Z6, Z7] <;> fail) | (simp (discharger := omega) only [Z3, Z8, Z2, Z4, Z1, Z7, Z5, Z6, Z9, Y1, Y2]; omega)) only [go_sem, setT_some, hrow, e5, hrl])
    rw [← hbr]
    have hB1 := hB.ext (L' := setAt (setAt L L.length .dead) (L.length + 1) (.live ⟨i64s (bsRow p na nb l n r i), true⟩)) (by simp only [setAt_length]; omega) fun j hj => by repeat rw [gd_setAt_ne' (by omega)]
    have hl1 : L.length + 1 < (setAt (setAt L L.length .dead) (L.length + 1) (.live ⟨i64s (bsRow p na nb l n r i), true⟩)).length := by simp only [setAt_length]; omega
    have hg1 : gd (setAt (setAt L L.length .dead) (L.length + 1) (.live ⟨i64s (bsRow p na nb l n r i), true⟩)) (L.length + 1) = .live ⟨i64s (bsRow p na nb l n r i), true⟩ := gd_setAt_same
    generalize setAt (setAt L L.length .dead) (L.length + 1) (.live ⟨i64s (bsRow p na nb l n r i), true⟩) = L1 at hB1 hl1 hg1 ⊢
    have hr0l := bsRow_length (p := p) (na := na) (nb := nb) (l := l) (n := n) (r := r) i
    have hred := bsRed_inv hp.1 hI.bas hI.ok hr0l (bsRow_rng hp.1 hmod hlt)
    have hst' : bsL p na nb l n r (i + 1) = _ := hst
    unfold bsStep at hst
    dsimp only at hst hred
    generalize bsRow p na nb l n r i = row0 at hg1 hr0l hred hst
    clear hgt hbr hrow hrl htl htl' hst' hT h1 h5 hB
    have hlen := hI.len
    have hle := hI.le
    dsimp only at hlen hle
    refine swp_for (fun (z : Nat × List Slot × Nat) => ([.c (.int .i64 (p)), .c (.slice k0 0 r 18), .c (.int .i64 ((na : Nat) : Int)), .c (.int .i64 ((nb : Nat) : Int))] ++ List.replicate 7 .any ++ [.c (.int .i64 ((n : Nat) : Int)), .c (.int .i64 ((r : Nat) : Int)), .c (.slice (nid N mm) 0 rows.length 1), .c (.slice (nid N ml) 0 rows.length 1), .c (.int .i64 ((rows.length : Nat) : Int)), .c (.int .i64 ((i : Nat) : Int)), .c (.slice (nid N z.2.2) 0 (n + r) 1), .c (.int .i64 ((z.1 : Nat) : Int))] ++ List.replicate 103 .any)) (fun z => ⟨G, N, z.2.1⟩) (fun z => rows.length - z.1) (fun z => z.1 ≤ rows.length ∧ BaI N (n + r) (rows, leads) z.2.1 mm ml js ∧ z.2.2 < z.2.1.length ∧ gd z.2.1 z.2.2 = .live ⟨i64s (bsRed p rows leads row0 z.1), true⟩) (0, L1, L.length + 1) ⟨Nat.zero_le _, hB1, hl1, hg1⟩ rfl (by repeat' (first | exact trivial | exact .inl rfl | exact .inr rfl | refine ⟨?_, ?_⟩)) ?_
    clear hB1 hl1 hg1
    rintro ⟨t, L, rr⟩ ⟨ht, hB, f1, f2⟩
    dsimp only at ht hB f1 f2
    have hbl := bsRed_length p rows leads row0 t
    obtain ⟨-, hrg⟩ := hred t ht
    simp only [List.replicate, List.cons_append, List.nil_append]
    repeat' (first | (with_reducible first | refine W1 ?_ | refine W2 ?_ | refine W3 ?_ | refine W4 mixed ?_ | refine W5 ?_ | refine W6 ?_ | refine W7 ?_ | refine W8 ?_ | refine W9 ?_ | refine V1 ?_ | refine V2 ?_ | refine V3 ?_ | refine V4 (by decide) ?_ | refine V5 ?_ | refine V6 ?_ | refine V7 ?_ | refine V8 ?_ | refine V9 ?_ | refine U1 ?_ | refine U2 ?_ | refine U3 ?_) | (with_reducible refine U4 ?_ ?_; next => first | omega | exact ⟨trivial, by omega⟩) | simp (maxSteps := 2000000) (discharger := first | omega | (simp (discharger := omega) only [Z1, Z2, Z3, Z4, Z5, Z6, Z7] <;> fail) | (simp (discharger := omega) only [Z3, Z8, Z2, Z4, Z1, Z7, Z5, Z6, Z9, Y1, Y2]; omega)) only [go_sem])
    refine swp_cond _ rfl (fun h => ?_) (fun h => ?_)
    · have hltt : t < rows.length := by simpa using h
      clear h
      obtain ⟨k1, k2⟩ := hI.ld t (by dsimp only; omega)
      dsimp only at k1 k2
      have hnx : bsRed p rows leads row0 (t + 1) = rkRow p ((bsRed p rows leads row0 t).getD (leads.getD t 0).toNat 0) (bsRed p rows leads row0 t) (rows.getD t []) (bsRed p rows leads row0 t).length := rfl
      obtain ⟨ld, hld⟩ := Int.eq_ofNat_of_zero_le k1
      rw [hld] at k2 hnx
      rw [Int.toNat_natCast, hbl, hr0l] at hnx
      have hrt := hB.h4.at_ t hltt
      have hrl := hI.ok.len t hltt
      have hrg2 := fun j => hI.ok.rng t j hltt
      have h3 := hB.h3
      have h8 := hB.h8
      have hjs := hB.h4.len
      dsimp only at hjs hrt hrl hrg2 h8
      have hjlt := hB.h4.lt _ (getD_mem (js := js) (i := t) (by omega))
      have hmm := hB.h1
      have hml := hB.h5
      rw [hr0l] at hbl
      generalize bsRed p rows leads row0 t = row at f2 hbl hrg hnx
      generalize rows.getD t [] = row2 at hrt hrl hrg2 hnx
      repeat' (first | (with_reducible first | refine W1 ?_ | refine W2 ?_ | refine W3 ?_ | refine W4 mixed ?_ | refine W5 ?_ | refine W6 ?_ | refine W7 ?_ | refine W8 ?_ | refine W9 ?_ | refine V1 ?_ | refine V2 ?_ | refine V3 ?_ | refine V4 (by decide) ?_ | refine V5 ?_ | refine V6 ?_ | refine V7 ?_ | refine V8 ?_ | refine V9 ?_ | refine U1 ?_ | refine U2 ?_ | refine U3 ?_) | (with_reducible refine U4 ?_ ?_; next => first | omega | exact ⟨trivial, by omega⟩) | simp (maxSteps := 2000000) (discharger := first | omega | (simp (discharger := omega) only [Z1, Z2, Z3, Z4, Z5, Z6, Z7] <;> fail) | (simp (discharger := omega) only [Z3, Z8, Z2, Z4, Z1, Z7, Z5, Z6, Z9, Y1, Y2]; omega)) only [go_sem, f2, h3, h8, hld])
      generalize js.getD t 0 = jt at hrt hjlt ⊢
      refine call_new1 (fun y hy => l10Less_spec (own1 := true) (own2 := true) (k1 := nid N rr) (k2 := nid N jt) hp hbl hrl (by omega) (hrg ld) hrg hrg2 y (fun e => hy _ (List.mem_cons_self ..) e.symm) (fun e => hy _ (List.mem_cons_of_mem _ (List.mem_cons_self ..)) e.symm)) (rd2 f2 hrt) nxt_free ?_
      rw [← hnx]
      repeat' (first | (with_reducible first | refine W1 ?_ | refine W2 ?_ | refine W3 ?_ | refine W4 mixed ?_ | refine W5 ?_ | refine W6 ?_ | refine W7 ?_ | refine W8 ?_ | refine W9 ?_ | refine V1 ?_ | refine V2 ?_ | refine V3 ?_ | refine V4 (by decide) ?_ | refine V5 ?_ | refine V6 ?_ | refine V7 ?_ | refine V8 ?_ | refine V9 ?_ | refine U1 ?_ | refine U2 ?_ | refine U3 ?_) | (with_reducible refine U4 ?_ ?_; next => first | omega | exact ⟨trivial, by omega⟩) | simp (maxSteps := 2000000) (discharger := first | omega | (simp (discharger := omega) only [Z1, Z2, Z3, Z4, Z5, Z6, Z7] <;> fail) | (simp (discharger := omega) only [Z3, Z8, Z2, Z4, Z1, Z7, Z5, Z6, Z9, Y1, Y2]; omega)) only [go_sem])
      refine must_confF [] rfl (by simp [confV]) ?_
      repeat' (first | (with_reducible first | refine W1 ?_ | refine W2 ?_ | refine W3 ?_ | refine W4 mixed ?_ | refine W5 ?_ | refine W6 ?_ | refine W7 ?_ | refine W8 ?_ | refine W9 ?_ | refine V1 ?_ | refine V2 ?_ | refine V3 ?_ | refine V4 (by decide) ?_ | refine V5 ?_ | refine V6 ?_ | refine V7 ?_ | refine V8 ?_ | refine V9 ?_ | refine U1 ?_ | refine U2 ?_ | refine U3 ?_) | (with_reducible refine U4 ?_ ?_; next => first | omega | exact ⟨trivial, by omega⟩) | simp (maxSteps := 2000000) (discharger := first | omega | (simp (discharger := omega) only [Z1, Z2, Z3, Z4, Z5, Z6, Z7] <;> fail) | (simp (discharger := omega) only [Z3, Z8, Z2, Z4, Z1, Z7, Z5, Z6, Z9, Y1, Y2]; omega)) only [go_sem])
      refine forK_same (t + 1, _, L.length) (by dsimp only; omega) ⟨by dsimp only; omega, ?_, ?_, ?_⟩ rfl (by repeat' (first | exact trivial | exact .inl rfl | exact .inr rfl | refine ⟨?_, ?_⟩))
      · dsimp only
        exact hB.ext (by simp only [setAt_length]; omega) fun j hj => by rw [gd_setAt_ne' (by omega)]
      · dsimp only; simp only [setAt_length]; omega
      · dsimp only; rw [gd_setAt_same]
    · have hltt : rows.length = t := by have : ¬ t < rows.length := by simpa using h
                                        omega
      clear h
      rw [hltt] at hst hred
      rw [hr0l] at hbl
      clear hred
      generalize bsRed p rows leads row0 t = row at f2 hbl hrg hst
      repeat' (first | (with_reducible first | refine W1 ?_ | refine W2 ?_ | refine W3 ?_ | refine W4 mixed ?_ | refine W5 ?_ | refine W6 ?_ | refine W7 ?_ | refine W8 ?_ | refine W9 ?_ | refine V1 ?_ | refine V2 ?_ | refine V3 ?_ | refine V4 (by decide) ?_ | refine V5 ?_ | refine V6 ?_ | refine V7 ?_ | refine V8 ?_ | refine V9 ?_ | refine U1 ?_ | refine U2 ?_ | refine U3 ?_) | (with_reducible refine U4 ?_ ?_; next => first | omega | exact ⟨trivial, by omega⟩) | simp (maxSteps := 2000000) (discharger := first | omega | (simp (discharger := omega) only [Z1, Z2, Z3, Z4, Z5, Z6, Z7] <;> fail) | (simp (discharger := omega) only [Z3, Z8, Z2, Z4, Z1, Z7, Z5, Z6, Z9, Y1, Y2]; omega)) only [go_sem])
      refine swp_for (fun (a : Nat) => ([.c (.int .i64 (p)), .c (.slice k0 0 r 18), .c (.int .i64 ((na : Nat) : Int)), .c (.int .i64 ((nb : Nat) : Int))] ++ List.replicate 7 .any ++ [.c (.int .i64 ((n : Nat) : Int)), .c (.int .i64 ((r : Nat) : Int)), .c (.slice (nid N mm) 0 rows.length 1), .c (.slice (nid N ml) 0 rows.length 1), .c (.int .i64 ((rows.length : Nat) : Int)), .c (.int .i64 ((i : Nat) : Int)), .c (.slice (nid N rr) 0 (n + r) 1), .any, .c (.int .i64 ((a : Nat) : Int))] ++ List.replicate 102 .any)) (fun a => ⟨G, N, L⟩) (fun a => n - a) (fun a => a ≤ n ∧ nzF row n 0 = nzF row (n - a) a) 0 ⟨Nat.zero_le _, rfl⟩ rfl (by repeat' (first | exact trivial | exact .inl rfl | exact .inr rfl | refine ⟨?_, ?_⟩)) ?_
      rintro a ⟨han, hnz⟩
      simp only [List.replicate, List.cons_append, List.nil_append]
      by_cases hac : a < n
      · have x1 : decide (((a : Nat) : Int) < ((n : Nat) : Int)) = true := decide_eq_true (by omega)
        by_cases hz0 : row.getD a 0 = 0
        · have x2 : (row.getD a 0 == 0) = true := by simp [hz0]
          rw [show n - a = (n - (a + 1)) + 1 from by omega, nzF_no hz0] at hnz
          repeat' (first | (with_reducible first | refine W1 ?_ | refine W2 ?_ | refine W3 ?_ | refine W4 mixed ?_ | refine W5 ?_ | refine W6 ?_ | refine W7 ?_ | refine W8 ?_ | refine W9 ?_ | refine V1 ?_ | refine V2 ?_ | refine V3 ?_ | refine V4 (by decide) ?_ | refine V5 ?_ | refine V6 ?_ | refine V7 ?_ | refine V8 ?_ | refine V9 ?_ | refine U1 ?_ | refine U2 ?_ | refine U3 ?_) | (with_reducible refine U4 ?_ ?_; next => first | omega | exact ⟨trivial, by omega⟩) | ((with_reducible refine U5 _ rfl (fun hq => ?_) (fun hq => ?_)) <;> try (first | (cases hq; done) | exact absurd hq (by decide))) | ((with_reducible refine U6 (fun hq => ?_) (fun hq => ?_)) <;> try (first | (cases hq; done) | exact absurd hq (by decide))) | simp (maxSteps := 2000000) (discharger := first | omega | (simp (discharger := omega) only [Z1, Z2, Z3, Z4, Z5, Z6, Z7] <;> fail) | (simp (discharger := omega) only [Z3, Z8, Z2, Z4, Z1, Z7, Z5, Z6, Z9, Y1, Y2]; omega)) only [go_sem, x1, x2, f2])
          exact forK_same (a + 1) (by omega) ⟨by omega, hnz⟩ rfl (by repeat' (first | exact trivial | exact .inl rfl | exact .inr rfl | refine ⟨?_, ?_⟩))
        · have x2 : (row.getD a 0 == 0) = false := by simp [hz0]
          rw [nzF_yes hz0 (by omega)] at hnz
          have x3 : ((((a : Nat) : Int)) == ((n : Nat) : Int)) = false := by simp; omega
          rw [hnz, if_neg (by omega)] at hst
          have hga := hrg a
          have hin := l01InverseP_spec (a := row.getD a 0) hP (by omega)
          have hinv := (invV_ok hP (a := row.getD a 0) (by omega)).2
          generalize invV p (row.getD a 0) = inv at hst hin hinv
          repeat' (first | (with_reducible first | refine W1 ?_ | refine W2 ?_ | refine W3 ?_ | refine W4 mixed ?_ | refine W5 ?_ | refine W6 ?_ | refine W7 ?_ | refine W8 ?_ | refine W9 ?_ | refine V1 ?_ | refine V2 ?_ | refine V3 ?_ | refine V4 (by decide) ?_ | refine V5 ?_ | refine V6 ?_ | refine V7 ?_ | refine V8 ?_ | refine V9 ?_ | refine U1 ?_ | refine U2 ?_ | refine U3 ?_) | (with_reducible refine U4 ?_ ?_; next => first | omega | exact ⟨trivial, by omega⟩) | ((with_reducible refine U5 _ rfl (fun hq => ?_) (fun hq => ?_)) <;> try (first | (cases hq; done) | exact absurd hq (by decide))) | ((with_reducible refine U6 (fun hq => ?_) (fun hq => ?_)) <;> try (first | (cases hq; done) | exact absurd hq (by decide))) | simp (maxSteps := 2000000) (discharger := first | omega | (simp (discharger := omega) only [Z1, Z2, Z3, Z4, Z5, Z6, Z7] <;> fail) | (simp (discharger := omega) only [Z3, Z8, Z2, Z4, Z1, Z7, Z5, Z6, Z9, Y1, Y2]; omega)) only [go_sem, x1, x2, x3, f2])
          refine call_pure hin ?_
          repeat' (first | (with_reducible first | refine W1 ?_ | refine W2 ?_ | refine W3 ?_ | refine W4 mixed ?_ | refine W5 ?_ | refine W6 ?_ | refine W7 ?_ | refine W8 ?_ | refine W9 ?_ | refine V1 ?_ | refine V2 ?_ | refine V3 ?_ | refine V4 (by decide) ?_ | refine V5 ?_ | refine V6 ?_ | refine V7 ?_ | refine V8 ?_ | refine V9 ?_ | refine U1 ?_ | refine U2 ?_ | refine U3 ?_) | (with_reducible refine U4 ?_ ?_; next => first | omega | exact ⟨trivial, by omega⟩) | simp (maxSteps := 2000000) (discharger := first | omega | (simp (discharger := omega) only [Z1, Z2, Z3, Z4, Z5, Z6, Z7] <;> fail) | (simp (discharger := omega) only [Z3, Z8, Z2, Z4, Z1, Z7, Z5, Z6, Z9, Y1, Y2]; omega)) only [go_sem])
          have hfull := mulP_full p inv row
          have hB1 := hB.ext (L' := setAt L L.length (.live ⟨[], true⟩)) (by simp only [setAt_length]; omega) fun j hj => by rw [gd_setAt_ne' (by omega)]
          have hg1 : gd (setAt L L.length (.live ⟨[], true⟩)) L.length = .live ⟨i64s (mulP p inv row 0), true⟩ := gd_setAt_same
          have hg2 : gd (setAt L L.length (.live ⟨[], true⟩)) rr = .live ⟨i64s row, true⟩ := by rw [gd_setAt_ne' (by omega)]; exact f2
          have hl1 : (setAt L L.length (.live ⟨[], true⟩)).length = L.length + 1 := by simp only [setAt_length]; omega
          refine swp_for (fun (z : Nat × List Slot × Nat) => ([.c (.int .i64 (p)), .c (.slice k0 0 r 18), .c (.int .i64 ((na : Nat) : Int)), .c (.int .i64 ((nb : Nat) : Int))] ++ List.replicate 7 .any ++ [.c (.int .i64 ((n : Nat) : Int)), .c (.int .i64 ((r : Nat) : Int)), .c (.slice (nid N mm) 0 rows.length 1), .c (.slice (nid N ml) 0 rows.length 1), .c (.int .i64 ((rows.length : Nat) : Int)), .c (.int .i64 ((i : Nat) : Int)), .c (.slice (nid N rr) 0 (n + r) 1), .any, .c (.int .i64 ((a : Nat) : Int)), .c (.int .i64 (inv)), .c (.slice (nid N z.2.2) 0 z.1 1), .c (.int .i64 ((z.1 : Nat) : Int))] ++ List.replicate 99 .any)) (fun z => ⟨G, N, z.2.1⟩) (fun z => n + r - z.1) (fun z => z.1 ≤ n + r ∧ BaI N (n + r) (rows, leads) z.2.1 mm ml js ∧ rr < z.2.1.length ∧ gd z.2.1 rr = .live ⟨i64s row, true⟩ ∧ z.2.2 < z.2.1.length ∧ z.2.2 ≠ rr ∧ z.2.2 ≠ mm ∧ z.2.2 ≠ ml ∧ z.2.2 ∉ js ∧ gd z.2.1 z.2.2 = .live ⟨i64s (mulP p inv row z.1), true⟩) (0, _, L.length) ⟨Nat.zero_le _, hB1, by dsimp only; omega, hg2, by dsimp only; omega, by dsimp only; omega, ?_, ?_, ?_, hg1⟩ rfl (by repeat' (first | exact trivial | exact .inl rfl | exact .inr rfl | refine ⟨?_, ?_⟩)) ?_
          · have := hB.h1; dsimp only; omega
          · have := hB.h5; dsimp only; omega
          · intro hm; have := hB.h4.lt _ hm; dsimp only at this; omega
          clear hB1 hg1 hg2 hl1 hB f1 f2
          rintro ⟨e, L, mq⟩ ⟨he, hB, f1, f2, f3, f4, f5, f6, f7, f8⟩
          dsimp only at he hB f1 f2 f3 f4 f5 f6 f7 f8
          have h1 := hB.h1
          have h5 := hB.h5
          have hjlt := hB.h4.lt
          have hml := mulP_length p inv row e
          simp only [List.replicate, List.cons_append, List.nil_append]
          repeat' (first | (with_reducible first | refine W1 ?_ | refine W2 ?_ | refine W3 ?_ | refine W4 mixed ?_ | refine W5 ?_ | refine W6 ?_ | refine W7 ?_ | refine W8 ?_ | refine W9 ?_ | refine V1 ?_ | refine V2 ?_ | refine V3 ?_ | refine V4 (by decide) ?_ | refine V5 ?_ | refine V6 ?_ | refine V7 ?_ | refine V8 ?_ | refine V9 ?_ | refine U1 ?_ | refine U2 ?_ | refine U3 ?_) | (with_reducible refine U4 ?_ ?_; next => first | omega | exact ⟨trivial, by omega⟩) | simp (maxSteps := 2000000) (discharger := first | omega | (simp (discharger := omega) only [Z1, Z2, Z3, Z4, Z5, Z6, Z7] <;> fail) | (simp (discharger := omega) only [Z3, Z8, Z2, Z4, Z1, Z7, Z5, Z6, Z9, Y1, Y2]; omega)) only [go_sem])
          refine swp_cond _ rfl (fun h => ?_) (fun h => ?_)
          · have hlte : e < n + r := by simp at h; omega
            clear h
            have hms := mulP_succ p inv row e
            have hge := hrg e
            have hbm : 0 ≤ row.getD e 0 * inv ∧ row.getD e 0 * inv ≤ 4 * 4 := ⟨Int.mul_nonneg hge.1 (by omega), Int.mul_le_mul (by omega) (by omega) (by omega) (by omega)⟩
            generalize mulP p inv row e = row3 at f8 hml hms
            have e9 : ldn (i64s row3) 0 e ++ [.int .i64 ((row.getD e 0 * inv).tmod p)] = i64s (row3 ++ [(row.getD e 0 * inv).tmod p]) := by
              rw [← at_snoc6, ← hml, ← i64s_length row3, ldn_full]
            repeat' (first | (with_reducible first | refine W1 ?_ | refine W2 ?_ | refine W3 ?_ | refine W4 mixed ?_ | refine W5 ?_ | refine W6 ?_ | refine W7 ?_ | refine W8 ?_ | refine W9 ?_ | refine V1 ?_ | refine V2 ?_ | refine V3 ?_ | refine V4 (by decide) ?_ | refine V5 ?_ | refine V6 ?_ | refine V7 ?_ | refine V8 ?_ | refine V9 ?_ | refine U1 ?_ | refine U2 ?_ | refine U3 ?_) | (with_reducible refine U4 ?_ ?_; next => first | omega | exact ⟨trivial, by omega⟩) | simp (maxSteps := 2000000) (discharger := first | omega | (simp (discharger := omega) only [Z1, Z2, Z3, Z4, Z5, Z6, Z7] <;> fail) | (simp (discharger := omega) only [Z3, Z8, Z2, Z4, Z1, Z7, Z5, Z6, Z9, Y1, Y2]; omega)) only [go_sem, f2, f8])
            refine forK_same (e + 1, _, L.length + 1) (by dsimp only; omega) ⟨by dsimp only; omega, ⟨?_, hB.h2, ?_, ?_, ?_, hB.h6, hB.h7, ?_⟩, ?_, ?_, ?_, ?_, ?_, ?_, ?_, ?_⟩ rfl (by repeat' (first | exact trivial | exact .inl rfl | exact .inr rfl | refine ⟨?_, ?_⟩))
            · dsimp only; simp only [setAt_length]; omega
            · dsimp only
              repeat rw [gd_setAt_ne' (by omega)]
              exact hB.h3
            · refine hB.h4.ext (by dsimp only; simp only [setAt_length]; omega) fun j hj => ?_
              have := hjlt j hj
              have hne : j ≠ mq := fun e0 => f7 (e0 ▸ hj)
              dsimp only
              repeat rw [gd_setAt_ne' (by omega)]
            · dsimp only; simp only [setAt_length]; omega
            · dsimp only
              repeat rw [gd_setAt_ne' (by omega)]
              exact hB.h8
            · dsimp only; simp only [setAt_length]; omega
            · dsimp only
              repeat rw [gd_setAt_ne' (by omega)]
              exact f2
            · dsimp only; simp only [setAt_length]; omega
            · dsimp only; omega
            · dsimp only; omega
            · dsimp only; omega
            · intro hm; have := hjlt _ hm; dsimp only at this; omega
            · dsimp only; rw [gd_setAt_same, e9, hms]
          · have hlte : e = n + r := by have : ¬ e < n + r := by simp at h; omega
                                        omega
            clear h
            subst hlte
            rw [← hbl, hfull, hbl] at f8
            have h3 := hB.h3
            have h6 := hB.h6
            have h8 := hB.h8
            have hjs := hB.h4.len
            have hll := hI.len
            dsimp only at hjs hll
            have e9 : ldn (i64s leads) 0 rows.length ++ [.int .i64 ((a : Nat) : Int)] = i64s (leads ++ [((a : Nat) : Int)]) := by
              rw [← at_snoc6, ← hll, ← i64s_length leads, ldn_full]
            rw [hbl] at hst
            have hsl := svMul_length p inv row (n + r)
            have hR2 : Abs.Rows L (js ++ [mq]) (rows ++ [svMul p inv row (n + r)]) := hB.h4.push f7 f3 f8
            repeat' (first | (with_reducible first | refine W1 ?_ | refine W2 ?_ | refine W3 ?_ | refine W4 mixed ?_ | refine W5 ?_ | refine W6 ?_ | refine W7 ?_ | refine W8 ?_ | refine W9 ?_ | refine V1 ?_ | refine V2 ?_ | refine V3 ?_ | refine V4 (by decide) ?_ | refine V5 ?_ | refine V6 ?_ | refine V7 ?_ | refine V8 ?_ | refine V9 ?_ | refine U1 ?_ | refine U2 ?_ | refine U3 ?_) | (with_reducible refine U4 ?_ ?_; next => first | omega | exact ⟨trivial, by omega⟩) | simp (maxSteps := 2000000) (discharger := first | omega | (simp (discharger := omega) only [Z1, Z2, Z3, Z4, Z5, Z6, Z7] <;> fail) | (simp (discharger := omega) only [Z3, Z8, Z2, Z4, Z1, Z7, Z5, Z6, Z9, Y1, Y2]; omega)) only [go_sem, h3, h8])
            refine forK_same (i + 1, _, L.length + 1, L.length + 1 + 1 + 1, js ++ [mq]) (by dsimp only; omega) ⟨by dsimp only; omega, ?_⟩ rfl (by dsimp only; rw [hst]; simp only [List.length_append, List.length_cons, List.length_nil]; repeat' (first | exact trivial | exact .inl rfl | exact .inr rfl | refine ⟨?_, ?_⟩))
            dsimp only
            rw [hst]
            refine ⟨?_, ?_, ?_, ?_, ?_, ?_, ?_, ?_⟩
            · simp only [setAt_length]; omega
            · intro hm
              rcases List.mem_append.1 hm with hm | hm
              · have := hjlt _ hm; omega
              · simp at hm; omega
            · repeat rw [gd_setAt_ne' (by omega)]
              rw [gd_setAt_same]
            · refine hR2.ext (by simp only [setAt_length]; omega) fun j hj => ?_
              have := hR2.lt j hj
              have hne1 : j ≠ mm := fun e0 => by
                subst e0
                rcases List.mem_append.1 hj with hm | hm
                · exact hB.h2 hm
                · simp at hm; omega
              have hne2 : j ≠ ml := fun e0 => by
                subst e0
                rcases List.mem_append.1 hj with hm | hm
                · exact hB.h7 hm
                · simp at hm; omega
              repeat rw [gd_setAt_ne' (by omega)]
            · simp only [setAt_length]; omega
            · omega
            · intro hm
              rcases List.mem_append.1 hm with hm | hm
              · have := hjlt _ hm; omega
              · simp at hm; omega
            · rw [gd_setAt_same]
              dsimp only
              rw [e9]
      · have x1 : decide (((a : Nat) : Int) < ((n : Nat) : Int)) = false := decide_eq_false (by omega)
        have hae : a = n := by omega
        have x3 : ((((a : Nat) : Int)) == ((n : Nat) : Int)) = true := by simp; omega
        rw [hae, Nat.sub_self, nzF] at hnz
        rw [if_pos hnz] at hst
        repeat' (first | (with_reducible first | refine W1 ?_ | refine W2 ?_ | refine W3 ?_ | refine W4 mixed ?_ | refine W5 ?_ | refine W6 ?_ | refine W7 ?_ | refine W8 ?_ | refine W9 ?_ | refine V1 ?_ | refine V2 ?_ | refine V3 ?_ | refine V4 (by decide) ?_ | refine V5 ?_ | refine V6 ?_ | refine V7 ?_ | refine V8 ?_ | refine V9 ?_ | refine U1 ?_ | refine U2 ?_ | refine U3 ?_) | (with_reducible refine U4 ?_ ?_; next => first | omega | exact ⟨trivial, by omega⟩) | ((with_reducible refine U5 _ rfl (fun hq => ?_) (fun hq => ?_)) <;> try (first | (cases hq; done) | exact absurd hq (by decide))) | ((with_reducible refine U6 (fun hq => ?_) (fun hq => ?_)) <;> try (first | (cases hq; done) | exact absurd hq (by decide))) | simp (maxSteps := 2000000) (discharger := first | omega | (simp (discharger := omega) only [Z1, Z2, Z3, Z4, Z5, Z6, Z7] <;> fail) | (simp (discharger := omega) only [Z3, Z8, Z2, Z4, Z1, Z7, Z5, Z6, Z9, Y1, Y2]; omega)) only [go_sem, x1, x3, f2])
        refine forK_same (i + 1, L, mm, ml, js) (by dsimp only; omega) ⟨by dsimp only; omega, ?_⟩ rfl (by dsimp only; rw [hst]; repeat' (first | exact trivial | exact .inl rfl | exact .inr rfl | refine ⟨?_, ?_⟩))
        dsimp only
        rw [hst]
        exact hB
  · have hlt : i = r := by have : ¬ i < r := by simpa using h
                           omega
    have e := hend hlt
    rw [e] at hyl ⊢
    clear h
    repeat' (first | (with_reducible first | refine W1 ?_ | refine W2 ?_ | refine W3 ?_ | refine W4 mixed ?_ | refine W5 ?_ | refine W6 ?_ | refine W7 ?_ | refine W8 ?_ | refine W9 ?_ | refine V1 ?_ | refine V2 ?_ | refine V3 ?_ | refine V4 (by decide) ?_ | refine V5 ?_ | refine V6 ?_ | refine V7 ?_ | refine V8 ?_ | refine V9 ?_ | refine U1 ?_ | refine U2 ?_ | refine U3 ?_) | (with_reducible refine U4 ?_ ?_; next => first | omega | exact ⟨trivial, by omega⟩) | simp (maxSteps := 2000000) (discharger := first | omega | (simp (discharger := omega) only [Z1, Z2, Z3, Z4, Z5, Z6, Z7] <;> fail) | (simp (discharger := omega) only [Z3, Z8, Z2, Z4, Z1, Z7, Z5, Z6, Z9, Y1, Y2]; omega)) only [go_sem])
    refine ret_rows2 hN x mm y ml ys js (n + r) rows leads hnd fx fy fys hyl hB.h3 hB.h8 hB.h4 ?_ [.c (.slice (nid N mm) 0 rows.length 1), .c (.slice (nid N ml) 0 rows.length 1), .c (.int .i64 ((rows.length : Nat) : Int))] ⟨rfl, rfl, rfl, trivial⟩ rfl ?_ ?_
    · refine List.nodup_cons.2 ⟨fun hm => ?_, List.nodup_cons.2 ⟨hB.h7, hB.h4.nd⟩⟩
      rcases List.mem_cons.1 hm with hm | hm
      · exact hB.h6 hm.symm
      · exact hB.h2 hm
    · simp [AV.idsT, AV.ids1, Cell.ids]
    · have hne : y ≠ x := fun e => (List.nodup_cons.1 hnd).1 (e ▸ List.mem_cons_self)
      simp [resOf, renT, ren1, Cell.mapIds, hne]

/-- What the basis leaves. -/
structure Basis (N : Nat) (w : Nat) (z : List (List Int) × List Int) (L L' : List Slot) (js : List Nat) : Prop where
  len : L'.length = L.length + 2 + z.1.length
  hd : gd L' L.length = .live ⟨rowN N js w, true⟩
  ld : gd L' (L.length + 1) = .live ⟨i64s z.2, true⟩
  rows : Abs.Rows L' js z.1
  lo : ∀ j ∈ js, L.length + 1 < j
  old : ∀ j, j < L.length → gd L' j = gd L j
theorem call_basis {G : Heap} {N : Nat} {L : List Slot} {K : Kont} {p : Int} {na nb n r : Nat} {c : Cell} {rs : List (Nat × AObj)} {l : List Int} (hP : isP p = true) (ha : na ≤ 9) (hb : nb ≤ 9) (hn : na * nb = n) (hn0 : 0 < n) (hc : Sl 18 (u8s l) r c rs) (hl : l.length = r * 18) (hr1 : r ≤ 30) (hby : byteL l) (hmod : modL p l)
    (hrd : ∀ p ∈ rs, (⟨G, N, L⟩ : AHeap).get p.1 = .live p.2)
    (hK : ∀ rs ws L' js, (⟨G, N, L⟩ : AHeap).puts ws = ⟨G, N, L'⟩ → Basis N (n + r) (bsL p na nb l n r r) L L' js → K (.tup [.c (.slice (nid N L.length) 0 (bsL p na nb l n r r).1.length 1), .c (.slice (nid N (L.length + 1)) 0 (bsL p na nb l n r r).1.length 1), .c (.int .i64 (((bsL p na nb l n r r).1.length : Nat) : Int))]) rs ws) :
    vCall Try.prog 213 [.c (.int .i64 (p)), .c c, .c (.int .i64 ((na : Nat) : Int)), .c (.int .i64 ((nb : Nat) : Int))] ⟨G, N, L⟩ (.mk K) := by
  have hspec := fun x y ys h1 h2 h3 => l10Basis_spec (rs := rs) hP ha hb hn hn0 hc hl hr1 hby hmod x y ys h1 h2 h3
  generalize bsL p na nb l n r r = z at hspec hK
  have ninj : ∀ {i j : Nat}, nid N i = nid N j → i = j := fun h => by unfold nid at h; omega
  let js := nextJ (L ++ [.dead]) z.1.length
  have hL1 : (L ++ [Slot.dead]).length = L.length + 1 := by simp
  have hjl : js.length = z.1.length := nextJ_len _ _
  have hjm : ∀ j ∈ js, L.length + 1 < j ∧ j < L.length + 2 + z.1.length := fun j hj => by have := nextJ_mem hj; omega
  have hjnd : js.Nodup := (List.nodup_cons.1 (nextJ_nd (L ++ [.dead]) z.1.length)).2
  have hjg : ∀ i, i < z.1.length → js.getD i 0 = L.length + 2 + i := fun i hi => by rw [nextJ_get hi, hL1]
  clear_value js
  have hfree : ∀ j, L.length ≤ j → (⟨G, N, L⟩ : AHeap).get (nid N j) = .free := fun j hj => by rw [get_new, gd_len hj]
  have hndN : (nid N L.length :: nid N (L.length + 1) :: js.map (nid N)).Nodup := by
    refine List.nodup_cons.2 ⟨fun hm => ?_, List.nodup_cons.2 ⟨fun hm => ?_, ?_⟩⟩
    · rcases List.mem_cons.1 hm with hm | hm
      · have := ninj hm; omega
      · obtain ⟨j, h1, h2⟩ := List.mem_map.1 hm
        have := ninj h2; have := hjm j h1; omega
    · obtain ⟨j, h1, h2⟩ := List.mem_map.1 hm
      have := ninj h2; have := hjm j h1; omega
    · rw [List.nodup_iff_pairwise_ne, List.pairwise_map]
      exact (List.nodup_iff_pairwise_ne.1 hjnd).imp fun h e => h (ninj e)
  have out : ∀ q ∈ rs, ∀ j, L.length ≤ j → q.1 ≠ nid N j := fun q hq j hj e => by
    have := hrd q hq
    rw [e, hfree j hj] at this
    cases this
  refine call_intro (hspec _ _ _ hndN (by rw [List.length_map]; exact hjl) fun q hq => ⟨out q hq _ (Nat.le_refl _), out q hq _ (by omega), fun hm => ?_⟩) hrd (fun q hq => ?_) ?_
  · obtain ⟨j, h1, h2⟩ := List.mem_map.1 hm
    have := hjm j h1
    exact out q hq j (by omega) h2.symm
  · right
    rcases List.mem_cons.1 hq with rfl | hq
    · exact hfree _ (Nat.le_refl _)
    · rcases List.mem_cons.1 hq with rfl | hq
      · exact hfree _ (by omega)
      · obtain ⟨i, h1, rfl⟩ := rowsW_mem (by rw [List.length_map]; exact hjl) q hq
        have hm : (js.map (nid N)).getD i 0 ∈ js.map (nid N) := getD_mem (by rw [List.length_map]; omega)
        obtain ⟨j, h2, h3⟩ := List.mem_map.1 hm
        dsimp only
        rw [← h3]
        exact hfree _ (by have := hjm j h2; omega)
  · obtain ⟨L', e1, e2, e3, e4, e5⟩ := puts_rows (G := G) (N := N) (L := setAt (setAt L L.length (.live ⟨rowN N js (n + r), true⟩)) (L.length + 1) (.live ⟨i64s z.2, true⟩)) hjl hjnd
    have hl2 : (setAt (setAt L L.length (.live ⟨rowN N js (n + r), true⟩)) (L.length + 1) (.live ⟨i64s z.2, true⟩)).length = L.length + 2 := by simp only [setAt_length]; omega
    rw [hl2] at e2 e3
    have hno : ∀ j, j < L.length + 2 → j ∉ js := fun j hj hm => by have := hjm j hm; omega
    refine hK _ _ L' js ?_ ⟨Nat.le_antisymm (e3 _ (by omega) fun j hj => (hjm j hj).2) ?_, ?_, ?_, e4, fun j hj => (hjm j hj).1, fun j hj => ?_⟩
    · rw [rowN_rowC, puts_cons, put_new, puts_cons, put_new]
      exact e1
    · by_cases h0 : z.1.length = 0
      · omega
      · have := e4.lt (js.getD (z.1.length - 1) 0) (getD_mem (by omega))
        rw [hjg _ (by omega)] at this
        omega
    · rw [e5 _ (hno _ (by omega)), gd_setAt_ne' (by omega), gd_setAt_same]
    · rw [e5 _ (hno _ (by omega)), gd_setAt_same]
    · rw [e5 _ (hno _ (by omega)), gd_setAt_ne' (by omega), gd_setAt_ne' (by omega)]
end Go.Proofs.Ytcfemdhlcjmlbaa
/- Completed schemes, theirs. -/
namespace Go.Proofs.Ytcfemdhlcjmlbaa
open Go Go.Abs
set_option maxRecDepth 100000

/- loop.example/g01262/spec.l01Empty -/
def c_spec_l01Empty : SFn := ⟨(.seq (.ops [⟨some 1, .box 53 (.tmp 0), none⟩, ⟨some 2, .alloc 53, none⟩])
 (.seq (.ops [⟨some 3, .fieldAddr 53 (.tmp 1) 0, none⟩, ⟨some 4, .load 2 (.tmp 3), none⟩, ⟨some 5, .fieldAddr 53 (.tmp 1) 1, none⟩, ⟨some 6, .load 2 (.tmp 5), none⟩, ⟨some 7, .fieldAddr 53 (.tmp 1) 2, none⟩, ⟨some 8, .load 2 (.tmp 7), none⟩, ⟨some 9, .fieldAddr 53 (.tmp 1) 3, none⟩, ⟨some 10, .load 2 (.tmp 9), none⟩, ⟨some 11, .buildSlice 51 0 #[], none⟩, ⟨some 12, .build 53 #[(0, .tmp 4), (1, .tmp 6), (2, .tmp 8), (3, .tmp 10), (4, .tmp 11)], none⟩, ⟨none, .store 53 (.tmp 2) (.tmp 12), none⟩])
  .ret)), [.cell 2 53], 13⟩
theorem f_spec_l01Empty : isFn Go.Proofs.Try.prog 170 = some c_spec_l01Empty := by kernel_rfl


set_option maxRecDepth 100000
set_option maxHeartbeats 16000000
set_option linter.unusedVariables false
attribute [-simp] List.getD_eq_getElem?_getD
attribute [-go_sem] confV

theorem l01Empty_specY (p n m k : Int) (c : Cell) (x : Nat) : FSpec Try.prog 170 [.agg (tenC p n m k c)] (.agg (tenC p n m k (.slice x 0 0 27))) [] [(x, .live ⟨u8s [], true⟩)] := by
  refine FSpec.of f_spec_l01Empty (Nat.le_of_ble_eq_true rfl) fun G N hN hr hw => ?_
  simp only [c_spec_l01Empty, List.length_cons, List.length_nil, List.replicate, List.cons_append, List.nil_append]
  have hfree := new_free (hw _ (List.mem_singleton.2 rfl)).2 (by simp)
  simp only [tenC]
  repeat' (first | (with_reducible first | refine W1 ?_ | refine W2 ?_ | refine W3 ?_ | refine W4 mixed ?_ | refine W5 ?_ | refine W6 ?_ | refine W7 ?_ | refine W8 ?_ | refine W9 ?_ | refine V1 ?_ | refine V2 ?_ | refine V3 ?_ | refine V4 (by decide) ?_ | refine V5 ?_ | refine V6 ?_ | refine V7 ?_ | refine V8 ?_ | refine V9 ?_ | refine U1 ?_ | refine U2 ?_ | refine U3 ?_) | (with_reducible refine U4 ?_ ?_; next => first | omega | exact ⟨trivial, by omega⟩) | simp (maxSteps := 2000000) (discharger := first | omega | (simp (discharger := omega) only [Z1, Z2, Z3, Z4, Z5, Z6, Z7] <;> fail) | (simp (discharger := omega) only [Z3, Z8, Z2, Z4, Z1, Z7, Z5, Z6, Z9, Y1, Y2]; omega)) only [go_sem])
  refine ret_obj hN x 2 (u8s []) [_] ⟨res_aggN (own := true) (cs := tenC p n m k (.slice (nid N 2) 0 0 27)) tyo_53 rfl rfl rfl rfl, trivial⟩ hfree rfl (flat_u8s _) rfl ?_ ?_
  · simp [AV.idsT, AV.ids1, Cell.ids]
  · simp [resOf, renT, ren1, tenC, Cell.mapIds]
/-- The right sides so far. -/
def rhsP (m k : Int) (nb n r z t : Nat) : List Int := (List.range (n + r)).map fun a => if a < n ∧ a < t then wantV m k ((a / nb : Nat) : Int) ((a % nb : Nat) : Int) ((z : Nat) : Int) else 0
theorem rhsP_length (m k : Int) (nb n r z t : Nat) : (rhsP m k nb n r z t).length = n + r := by simp [rhsP]
theorem rhsP_get {m k : Int} {nb n r z t a : Nat} (h : a < n + r) : (rhsP m k nb n r z t).getD a 0 = if a < n ∧ a < t then wantV m k ((a / nb : Nat) : Int) ((a % nb : Nat) : Int) ((z : Nat) : Int) else 0 := by
  simp [rhsP, List.getD_eq_getElem?_getD, h]
theorem rhsP_zero (m k : Int) (nb n r z : Nat) : rhsP m k nb n r z 0 = List.replicate (n + r) 0 := list_ext_getD (by simp [rhsP]) fun j hj => by
  rw [rhsP_length] at hj
  rw [rhsP_get hj, if_neg (by omega), List.getD_eq_getElem?_getD, List.getElem?_replicate, if_pos hj]; rfl
theorem rhsP_succ (m k : Int) {nb n r z t : Nat} (ht : t < n) : rhsP m k nb n r z (t + 1) = (rhsP m k nb n r z t).set t (wantV m k ((t / nb : Nat) : Int) ((t % nb : Nat) : Int) ((z : Nat) : Int)) := list_ext_getD (by rw [List.length_set, rhsP_length, rhsP_length]) fun j hj => by
  rw [rhsP_length] at hj
  rw [getD_set (by rw [rhsP_length]; omega), rhsP_get hj, rhsP_get hj]
  by_cases e : j = t
  · subst e; rw [if_pos ⟨ht, by omega⟩, if_pos rfl]
  · rw [if_neg e]
    by_cases e2 : j < n ∧ j < t
    · rw [if_pos ⟨e2.1, by omega⟩, if_pos e2]
    · rw [if_neg (by omega), if_neg e2]
theorem rhsP_full (m k : Int) (nb n r z : Nat) : rhsP m k nb n r z n = rhsL m k nb n r z := list_ext_getD (by rw [rhsP_length, rhsL_length]) fun j hj => by
  rw [rhsP_length] at hj
  rw [rhsP_get hj, rhsL_get z j hj, rhsV]
  by_cases e : j < n
  · rw [if_pos ⟨e, e⟩, if_pos e]
  · rw [if_neg (by omega), if_neg e]
/-- The forms: numbers at the first z places, of the first i pairs at one more. -/
def fmL (x : Nat → Nat → Int) (r z i : Nat) : List Int := (List.range (r * 9)).map fun e => if e % 9 < (if e / 9 < i then z + 1 else z) then x (e / 9) (e % 9) else 0
section
variable {x : Nat → Nat → Int} {r z i : Nat}
theorem fmL_length : (fmL x r z i).length = r * 9 := by simp [fmL]
theorem fmL_get {e : Nat} (h : e < r * 9) : (fmL x r z i).getD e 0 = if e % 9 < (if e / 9 < i then z + 1 else z) then x (e / 9) (e % 9) else 0 := by
  simp [fmL, List.getD_eq_getElem?_getD, h]
theorem fmL_zero : fmL x r 0 0 = zeros (r * 9) := list_ext_getD (by rw [fmL_length, zeros_length]) fun j hj => by
  rw [fmL_length] at hj
  rw [fmL_get hj, if_neg (Nat.not_lt_zero _), if_neg (Nat.not_lt_zero _), zeros, List.getD_eq_getElem?_getD, List.getElem?_replicate, if_pos hj]; rfl
theorem fmL_next : fmL x r z r = fmL x r (z + 1) 0 := list_ext_getD (by rw [fmL_length, fmL_length]) fun j hj => by
  rw [fmL_length] at hj
  rw [fmL_get hj, fmL_get hj, if_pos (show j / 9 < r by omega), if_neg (Nat.not_lt_zero (j / 9))]
theorem fmL_sub {j : Nat} (hj : j < r) : sub (fmL x r z i) (j * 9) 9 = cofL (x j) (if j < i then z + 1 else z) := by
  have hl : (fmL x r z i).length = r * 9 := fmL_length
  refine list_ext_getD (by rw [sub_length (by omega), cofL_length]) fun t ht => ?_
  rw [sub_length (by omega)] at ht
  rw [sub_getD ht, fmL_get (by omega), cofL_get ht, show (j * 9 + t) % 9 = t from by omega, show (j * 9 + t) / 9 = j from by omega]
theorem fmL_put (hi : i < r) : putL (fmL x r z i) (i * 9) (cofL (x i) (z + 1)) = fmL x r z (i + 1) := by
  have hl : (fmL x r z i).length = r * 9 := fmL_length
  have hc : (cofL (x i) (z + 1)).length = 9 := cofL_length _ _
  refine list_ext_getD (by rw [putL_len, fmL_length, fmL_length]) fun j hj => ?_
  rw [putL_len, fmL_length] at hj
  rw [putL_getF (by omega), hc, fmL_get hj, fmL_get hj]
  by_cases e : i * 9 ≤ j ∧ j < i * 9 + 9
  · rw [if_pos e, cofL_get (by omega), show j - i * 9 = j % 9 from by omega, show j / 9 = i from by omega, if_pos (show i < i + 1 by omega)]
  · rw [if_neg e]
    by_cases e2 : j / 9 < i
    · rw [if_pos e2, if_pos (show j / 9 < i + 1 by omega)]
    · rw [if_neg e2, if_neg (show ¬ j / 9 < i + 1 by omega)]
end
end Go.Proofs.Ytcfemdhlcjmlbaa
