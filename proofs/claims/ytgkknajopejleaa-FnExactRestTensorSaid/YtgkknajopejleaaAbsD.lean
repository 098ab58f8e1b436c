/- More operations: aggregates, numbers, addresses. -/
import Derived.Test.YtgkknajopejleaaAbsC
import Derived.Laws.Tables
import Derived.Laws.StructEq
namespace Go.Abs
open Go.RowKit (Below)

theorem foldl_set (off : Nat) : ∀ (vs : List Value) (s : Nat) (C : Array Value), off + s + vs.length ≤ C.size →
    (vs.zipIdx s).foldl (fun cs (x : Value × Nat) => cs.setIfInBounds (off + x.2) x.1) C = (C.toList.take (off + s) ++ vs ++ C.toList.drop (off + s + vs.length)).toArray
  | [], s, C, _ => by simp
  | v :: vs, s, C, h => by
    have hi : off + s < C.size := by simp at h; omega
    rw [List.zipIdx_cons, List.foldl_cons, foldl_set off vs (s + 1) _ (by simp at h ⊢; omega)]
    congr 1
    have e := list_seg_step C.toList (off + s) v vs (by simp at h ⊢; omega)
    simpa [Array.toList_setIfInBounds, Nat.add_assoc] using e

/-- What 'fill' makes of represented parts. -/
theorem fill_rep {μ : LMap} {place : Nat → Option (Nat × Nat)} : ∀ {parts : List (Nat × AV)} {vparts : List (Nat × Value)} {cells out : List Cell} {C : Array Value},
    parts.length = vparts.length → (∀ (i : Nat) p v, parts[i]? = some p → vparts[i]? = some v → p.1 = v.1 ∧ RepV μ p.2 v.2) → RepCs μ cells C.toList → fillC place cells parts = some out →
    ∃ D, Instr.fill place C vparts = some D ∧ RepCs μ out D.toList
  | [], [], cells, out, C, _, _, hr, h => by simp [fillC] at h; subst h; exact ⟨C, rfl, hr⟩
  | (i, x) :: parts, (i', v) :: vparts, cells, out, C, hl, hp, hr, h => by
    obtain ⟨h1, h2⟩ := hp 0 (i, x) (i', v) rfl rfl
    simp only at h1 h2
    subst h1
    simp only [fillC] at h
    split at h
    · rename_i off size vs hpl hc
      split at h
      · rename_i hcond
        have hv := h2.cells_inv hc
        have hvl := hv.length
        have hrl := hr.length
        have hcs : v.cells.size = vs.length := by simpa using hvl.symm
        have hfit : ¬ (v.cells.size ≠ size || decide (off + v.cells.size > C.size)) = true := by
          simp at hrl
          simp; omega
        simp only [Instr.fill, hpl, hfit]
        have hfold : (v.cells.zipIdx.foldl (fun cs (x : Value × Nat) => cs.setIfInBounds (off + x.2) x.1) C) = (C.toList.take off ++ v.cells.toList ++ C.toList.drop (off + v.cells.toList.length)).toArray := by
          have := foldl_set off v.cells.toList 0 C (by simp at hrl; simp; omega)
          rw [← Array.foldl_toList, Array.toList_zipIdx]
          simpa using this
        rw [hfold]
        refine fill_rep (by simpa using hl) (fun j p u hj hu => hp (j + 1) p u (by simpa using hj) (by simpa using hu)) ?_ h
        have hsp := reps_splice (base := 0) (C := C) (cells := cells) (off := off) (fun j x hx => by
          obtain ⟨u, hu, hrep⟩ := hr.get j x hx
          exact ⟨u, by simpa using hu, hrep⟩) hv (by omega) (by simp at hrl; omega)
        refine RepCs.mk ?_ fun j c hc => ?_
        · rw [length_splice (by omega)]
          simp at hrl
          simp; omega
        · simpa using hsp j c hc
      · cases h
    · cases h
  | [], _ :: _, _, _, _, hl, _, _, _ => by simp at hl
  | _ :: _, [], _, _, _, hl, _, _, _ => by simp at hl

theorem replicate_flatten_get {μ : LMap} {ez : List Cell} {zs : Array Value} (h : RepCs μ ez zs.toList) (n : Nat) :
    RepCs μ (List.replicate n ez).flatten ((Array.range (n * zs.size)).map (zs[· % zs.size]!)).toList := by
  have hl := h.length
  simp at hl
  refine RepCs.mk (by simp [hl]) fun j c hc => ?_
  have hj : j < n * zs.size := by
    have := (List.getElem?_eq_some_iff.1 hc).1
    simpa [hl] using this
  have hpos : 0 < zs.size := by
    rcases Nat.eq_zero_or_pos zs.size with h0 | h0
    · rw [h0] at hj; omega
    · exact h0
  have hm : j % zs.size < zs.size := Nat.mod_lt _ hpos
  refine ⟨zs[j % zs.size]!, by simp [hj], ?_⟩
  have hcz : ez[j % zs.size]? = some c := by
    have key : ∀ (n j : Nat), (List.replicate n ez).flatten[j]? = some c → ez[j % zs.size]? = some c := by
      intro n
      induction n with
      | zero => intro j h; simp at h
      | succ n ih =>
        intro j h
        rw [List.replicate_succ, List.flatten_cons, List.getElem?_append] at h
        split at h
        · rename_i hlt
          rw [Nat.mod_eq_of_lt (by omega)]; exact h
        · rename_i hge
          have := ih _ h
          rw [hl] at this hge
          rwa [← Nat.mod_eq_sub_mod (by omega)] at this
    exact key n j hc
  obtain ⟨v, hv, hr⟩ := h.get _ _ hcz
  have e : zs[j % zs.size]! = v := by
    rw [getElem!_pos zs _ hm]
    have := hv
    rw [Array.getElem?_toList, Array.getElem?_eq_getElem hm] at this
    simpa using this
  rw [e]; exact hr

section
variable {P : Program} {o : Oper} {ρ : Operand → AV} {h : AHeap} {K : Kont}

theorem parts_rep {μ : LMap} {a : Act} (parts : Array (Nat × Operand)) (hops : ∀ x ∈ (parts.toList.map (·.2)).toArray, RepV μ (ρ x) (a.eval x)) :
    ∀ (i : Nat) p v, (parts.toList.map fun p => (p.1, ρ p.2))[i]? = some p → ((parts.map fun (i, x) => (i, a.eval x)).toList)[i]? = some v → p.1 = v.1 ∧ RepV μ p.2 v.2 := by
  intro i p v h1 h2
  simp only [Array.toList_map, List.getElem?_map, Option.map_eq_some_iff] at h1 h2
  obtain ⟨q, hq, rfl⟩ := h1
  obtain ⟨q', hq', rfl⟩ := h2
  rw [hq] at hq'; cases hq'
  exact ⟨rfl, hops q.2 (by simp; exact ⟨q.1, by
    have := List.mem_of_getElem? hq
    simpa using this⟩)⟩

theorem snd_build {t : TypeId} {parts : Array (Nat × Operand)} (ho : o.op = .build t parts) {ti : TyI} (ht : tyOf P t = some ti) (hpl : isPlace ti.kind = true) {cs : List Cell}
    (hf : fillC (placeOf ti.kind) ti.zero (parts.toList.map fun p => (p.1, ρ p.2)) = some cs) (hk : K (.agg cs) [] []) : Snd P o ρ h K := by
  obtain ⟨i, d, z, hi, hd, hz, hzc, hsz, _, hag, hkd⟩ := tyOf_spec ht
  refine Snd.pure hk fun μ w a hops => ?_
  have hops' : ∀ x ∈ (parts.toList.map (·.2)).toArray, RepV μ (ρ x) (a.eval x) := by
    intro x hx; exact hops x (by rw [ho]; exact hx)
  have hp := parts_rep parts hops'
  obtain ⟨D, hD, hrep⟩ := fill_rep (C := z.cells) (by simp) hp (cellsOfL_rep hzc) hf
  have hb : P.built t (parts.map fun (i, x) => (i, a.eval x)).toList = some D := by
    unfold Program.built
    rw [hkd] at hD hpl
    cases hk2 : kindOf P t <;> simp only [hk2, isPlace, Bool.false_eq_true] at hpl
    case struct l =>
      obtain ⟨fs', h1, h2⟩ := kind_struct hk2
      rw [hk2] at hD
      have e : placeOf (.struct l) = fun x => l[x]? := by funext x; rfl
      rw [e] at hD
      simp only [hi, h1, hz, h2]
      simpa using hD
    case array n es ea =>
      obtain ⟨e, ie, d', h1, h2, h3, _⟩ := kind_array hk2
      rw [hk2] at hD
      have e' : placeOf (.array n es ea) = fun i => some (i * es, es) := by funext x; rfl
      rw [e', ← h3] at hD
      simp only [hi, h1, hz, h2]
      simpa using hD
  have hrun := run_build (P := P) w t _ D hb
  exact ⟨.agg D, by simp [execOp, ho, hrun], by simpa using RepV.agg hrep⟩

theorem snd_buildSlice {t : TypeId} {len : Nat} {parts : Array (Nat × Operand)} (ho : o.op = .buildSlice t len parts) {ti : TyI} (ht : tyOf P t = some ti) {es eb : Nat} {ez cs : List Cell} (hkd : ti.kind = .slice es eb ez) (hez : ez.length = es) (hsm : len * es ≤ 16777216)
    (hf : fillC (fun i => some (i * es, es)) (List.replicate len ez).flatten (parts.toList.map fun p => (p.1, ρ p.2)) = some cs) (hk : K (.c (.slice h.nxt 0 len es)) [] [(h.nxt, .live ⟨cs, true⟩)]) : Snd P o ρ h K := by
  obtain ⟨i, d, z0, hi, hd, hz0, hzc0, hsz, _, hag, hkd'⟩ := tyOf_spec ht
  rw [hkd'] at hkd
  obtain ⟨e, ie, z, hu, hie, hes, heb, hz, hzc⟩ := kind_slice hkd
  refine snd_new hk fun μ w a hops => ?_
  have hops' : ∀ x ∈ (parts.toList.map (·.2)).toArray, RepV μ (ρ x) (a.eval x) := by
    intro x hx; exact hops x (by rw [ho]; exact hx)
  have hp := parts_rep parts hops'
  have hzr := cellsOfL_rep (μ := μ) hzc
  have hzl : z.cells.size = es := by have := hzr.length; simp at this; omega
  obtain ⟨D, hD, hrep⟩ := fill_rep (by simp) hp (replicate_flatten_get hzr len) hf
  have hDl : D.size = len * es := by
    have h1 := hrep.length
    have h2 : cs.length = len * es := by
      have key : ∀ (parts : List (Nat × AV)) (cells out : List Cell), fillC (fun i => some (i * es, es)) cells parts = some out → out.length = cells.length := by
        intro parts
        induction parts with
        | nil => intro cells out h; simp [fillC] at h; rw [h]
        | cons p parts ih =>
          intro cells out h
          obtain ⟨i, v⟩ := p
          simp only [fillC] at h
          split at h
          · split at h
            · rename_i hc
              rw [ih _ _ h, length_splice hc.2]
            · cases h
          · cases h
      rw [key _ _ _ hf]; simp [hez]
    simp at h1; omega
  refine ⟨_, D, e, ?_, fun j x hx => by simpa using hrep.get j x hx, .c ⟨_, some ⟨w.heap.size, 0, none⟩, len, upd_same _ _ _, rfl, Nat.le_refl _, .inr ⟨0, rfl, rfl, by simp [hDl], .inr rfl⟩⟩⟩
  have hsmall : ¬ len * ie.size > 2 ^ 24 := by rw [hes]; simp; omega
  have e0 : ∀ g : Nat → Value, (Array.range 0).map g = #[] := fun _ => by apply Array.eq_empty_of_size_eq_zero; simp
  by_cases h0 : len * ie.size = 0
  · have hD' : Instr.fill (fun i => some (i * ie.size, ie.size)) #[] (parts.map fun (i, x) => (i, a.eval x)).toList = some D := by
      rw [hes] at h0 ⊢
      rw [hzl, h0, e0] at hD
      exact hD
    simp at hD'
    simp [execOp, ho, Instr.buildSlice, run_underlying hu, sizeOf, typeInfo, hie, h0, e0, hD', newRow]
  · have hD' : Instr.fill (fun i => some (i * ie.size, ie.size)) ((Array.range (len * ie.size)).map (z.cells[· % z.cells.size]!)) (parts.map fun (i, x) => (i, a.eval x)).toList = some D := by
      rw [hes, ← hzl]; rw [← hzl] at hD; exact hD
    simp at hD'
    simp [execOp, ho, Instr.buildSlice, run_underlying hu, sizeOf, typeInfo, zeroValue, hie, hz, hsmall, h0, hD', newRow]

theorem snd_unNot {t : TypeId} {x : Operand} (ho : o.op = .unOp .not t x) {b : Bool} (hx : ρ x = .c (.bool b)) (hk : K (.c (.bool !b)) [] []) : Snd P o ρ h K := by
  refine Snd.pure hk fun μ w a hops => ?_
  have hv := hops x (by simp [ho, Op.operands])
  rw [hx] at hv
  have e : a.eval x = .bool b := hv.c_inv
  exact ⟨.bool !b, by simp [execOp, ho, e, Op.unary], .c rfl⟩
theorem snd_unNeg {t : TypeId} {x : Operand} (ho : o.op = .unOp .neg t x) {k : IntKind} {n : Int} (hx : ρ x = .c (.int k n)) (hk : K (.c (.int k (k.wrap (0 - n)))) [] []) : Snd P o ρ h K := by
  refine Snd.pure hk fun μ w a hops => ?_
  have hv := hops x (by simp [ho, Op.operands])
  rw [hx] at hv
  have e : a.eval x = .int k n := hv.c_inv
  exact ⟨.int k (k.wrap (0 - n)), by simp [execOp, ho, e, Op.unary, Op.intArith], .c rfl⟩

theorem snd_convert {s t : TypeId} {x : Operand} (ho : o.op = .convert s t x) {ti ti' : TyI} (hs : tyOf P s = some ti') (ht : tyOf P t = some ti) {k k' : IntKind} {n : Int} (hkd : ti.kind = .int k) (hx : ρ x = .c (.int k' n)) (hk : K (.c (.int k (k.wrap n))) [] []) : Snd P o ρ h K := by
  obtain ⟨_, d, _, _, hd, _⟩ := tyOf_spec hs
  obtain ⟨_, _, _, _, _, _, _, _, _, _, hkd'⟩ := tyOf_spec ht
  rw [hkd'] at hkd
  have hu := kind_int hkd
  refine Snd.pure hk fun μ w a hops => ?_
  have hv := hops x (by simp [ho, Op.operands])
  rw [hx] at hv
  have e : a.eval x = .int k' n := hv.c_inv
  exact ⟨.int k (k.wrap n), by simp [execOp, ho, e, convert, run_underlying hu, run_underlying hd, Conv.intToInt], .c rfl⟩

theorem ptrs_rep {μ : LMap} : ∀ {as : List AV} {ps : List (Nat × Nat)} {vs : List Value}, ptrs as = some ps → as.length = vs.length → (∀ (i : Nat) x v, as[i]? = some x → vs[i]? = some v → RepV μ x v) → RepPs μ ps vs
  | [], ps, [], h, _, _ => by simp [ptrs] at h; subst h; trivial
  | [], _, _ :: _, _, hl, _ => by simp at hl
  | _ :: _, _, [], _, hl, _ => by simp at hl
  | x :: as, ps, v :: vs, h, hl, hr => by
    have h0 := hr 0 x v rfl rfl
    cases x with
    | c cc =>
      cases cc with
      | ptr k off =>
        simp only [ptrs, Option.map_eq_some_iff] at h
        obtain ⟨qs, hq, rfl⟩ := h
        exact ⟨h0.c_inv, ptrs_rep hq (by simpa using hl) fun i y u hy hu => hr (i + 1) y u (by simpa using hy) (by simpa using hu)⟩
      | _ => simp [ptrs] at h
    | _ => simp [ptrs] at h

theorem snd_makeFunc {f : FuncId} {first captured : Array Operand} (ho : o.op = .makeFunc (.func f) first captured) (hf : first = #[]) {ps : List (Nat × Nat)} (hp : ptrs (captured.toList.map ρ) = some ps) (hk : K (.c (.fn f ps)) [] []) : Snd P o ρ h K := by
  subst hf
  refine Snd.pure hk fun μ w a hops => ?_
  refine ⟨.func (.func f) #[] (captured.map a.eval), by simp [execOp, ho, Instr.makeFunc], .c ⟨(captured.map a.eval).toList, by rw [Array.toArray_toList], ?_⟩⟩
  refine ptrs_rep hp (by simp) fun i x v hx hv => ?_
  simp only [Array.toList_map, List.getElem?_map, Option.map_eq_some_iff] at hx hv
  obtain ⟨q, hq, rfl⟩ := hx
  obtain ⟨q', hq', rfl⟩ := hv
  rw [hq] at hq'; cases hq'
  exact hops q (by simp [ho, Op.operands]; simpa using List.mem_of_getElem? hq)

theorem snd_fieldAddr {s : TypeId} {x : Operand} {f : Nat} (ho : o.op = .fieldAddr s x f) {ti : TyI} (ht : tyOf P s = some ti) {fs : List (Nat × Nat)} {off' sz k off : Nat} (hkd : ti.kind = .struct fs) (hf : fs[f]? = some (off', sz)) (hsz : sz ≠ 0)
    (hx : ρ x = .c (.ptr k off)) (hk : K (.c (.ptr k (off + off'))) [] []) : Snd P o ρ h K := by
  obtain ⟨_, _, _, _, _, _, _, _, _, _, hkd'⟩ := tyOf_spec ht
  rw [hkd'] at hkd
  obtain ⟨fields, hu, hm⟩ := kind_struct hkd
  have hfield : ∃ fl i, fields[f]? = some fl ∧ P.info? fl.type = some i ∧ fl.offset = off' ∧ i.size = sz := by
    have key : ∀ (l : List Field) (fs : List (Nat × Nat)) (j : Nat), l.mapM (fun f => (P.info? f.type).map fun i => (f.offset, i.size)) = some fs → fs[j]? = some (off', sz) → ∃ fl i, l[j]? = some fl ∧ P.info? fl.type = some i ∧ fl.offset = off' ∧ i.size = sz := by
      intro l
      induction l with
      | nil => intro fs j h h'; simp at h; subst h; simp at h'
      | cons g l ih =>
        intro fs j h h'
        simp only [List.mapM_cons, Option.bind_eq_bind, Option.pure_def] at h
        cases hi : P.info? g.type with
        | none => simp [hi] at h
        | some i =>
          cases hr : l.mapM (fun f => (P.info? f.type).map fun i => (f.offset, i.size)) with
          | none => simp [hi, hr] at h
          | some rest =>
            simp [hi, hr] at h
            subst h
            cases j with
            | zero => simp at h'; exact ⟨g, i, rfl, hi, h'.1, h'.2⟩
            | succ j => simpa using ih rest j hr (by simpa using h')
    obtain ⟨fl, i, h1, h2, h3, h4⟩ := key fields.toList fs f hm hf
    exact ⟨fl, i, by simpa using h1, h2, h3, h4⟩
  obtain ⟨fl, i, h1, h2, h3, h4⟩ := hfield
  refine Snd.pure hk fun μ w a hops => ?_
  have hv := hops x (by simp [ho, Op.operands])
  rw [hx] at hv
  obtain ⟨l, hl, e⟩ := hv.c_inv
  refine ⟨.pointer (some ⟨l.b, l.base + (off + off'), none⟩), ?_, .c ⟨l, hl, rfl⟩⟩
  have hne : ¬ i.size = 0 := by rw [h4]; exact hsz
  simp [execOp, ho, e, Instr.fieldAt, run_underlying hu, h1, Instr.sureAddr, fieldPlace, sizeOf, typeInfo, h2, hne, Addr.add_lit, h3, Nat.add_assoc]

theorem snd_indexArr {t : TypeId} {x ix : Operand} (ho : o.op = .indexAddr t x ix) {ti : TyI} (ht : tyOf P t = some ti) {n es k off : Nat} {ea : Bool} (hkd : ti.kind = .array n es ea) (hx : ρ x = .c (.ptr k off)) {ki : IntKind} {i : Int} (hix : ρ ix = .c (.int ki i))
    (h0 : 0 ≤ i) (h1 : i < n) (hk : K (.c (.ptr k (off + i.toNat * es))) [] []) : Snd P o ρ h K := by
  obtain ⟨_, _, _, _, _, _, _, _, _, _, hkd'⟩ := tyOf_spec ht
  rw [hkd'] at hkd
  obtain ⟨e, ie, _, hu, hie, hes, _⟩ := kind_array hkd
  refine Snd.pure hk fun μ w a hops => ?_
  have hv := hops x (by simp [ho, Op.operands])
  rw [hx] at hv
  obtain ⟨l, hl, he⟩ := hv.c_inv
  have hv2 := hops ix (by simp [ho, Op.operands])
  rw [hix] at hv2
  have he2 : a.eval ix = .int ki i := hv2.c_inv
  refine ⟨.pointer (some ⟨l.b, l.base + (off + i.toNat * es), none⟩), ?_, .c ⟨l, hl, rfl⟩⟩
  simp [execOp, ho, he, he2, Instr.indexAt, asIntOf, run_underlying hu, Instr.sureAddr, sizeOf, typeInfo, hie, h0, h1, Addr.add_lit, hes, Nat.add_assoc]

theorem snd_indexSl {t : TypeId} {x ix : Operand} (ho : o.op = .indexAddr t x ix) {ti : TyI} (ht : tyOf P t = some ti) {es eb k off len : Nat} {ez : List Cell} (hkd : ti.kind = .slice es eb ez) (hx : ρ x = .c (.slice k off len es)) {ki : IntKind} {i : Int} (hix : ρ ix = .c (.int ki i))
    (h0 : 0 ≤ i) (h1 : i < len) (hk : K (.c (.ptr k (off + i.toNat * es))) [] []) : Snd P o ρ h K := by
  obtain ⟨_, _, _, _, _, _, _, _, _, _, hkd'⟩ := tyOf_spec ht
  rw [hkd'] at hkd
  obtain ⟨e, ie, z, hu, hie, hes, heb, hz, hzc⟩ := kind_slice hkd
  refine Snd.pure hk fun μ w a hops => ?_
  have hv := hops x (by simp [ho, Op.operands])
  rw [hx] at hv
  obtain ⟨l, p, cap, hl, he, hle, hc⟩ := hv.c_inv
  have hv2 := hops ix (by simp [ho, Op.operands])
  rw [hix] at hv2
  have he2 : a.eval ix = .int ki i := hv2.c_inv
  rcases hc with ⟨hl0, _⟩ | ⟨y, rfl, hr, hfit, hy⟩
  · omega
  · rcases hy with hl0 | rfl
    · omega
    · refine ⟨.pointer (some ⟨l.b, l.base + (off + i.toNat * es), none⟩), ?_, .c ⟨l, hl, rfl⟩⟩
      simp [execOp, ho, he, he2, Instr.indexAt, asIntOf, run_underlying hu, sizeOf, typeInfo, hie, h0, h1, Addr.add_lit, hes, Nat.add_assoc]

theorem snd_index {t : TypeId} {x ix : Operand} (ho : o.op = .index t x ix) {ti : TyI} (ht : tyOf P t = some ti) {n es : Nat} {ea : Bool} (hkd : ti.kind = .array n es ea) {cs : List Cell} (hx : ρ x = .agg cs) {ki : IntKind} {i : Int} (hix : ρ ix = .c (.int ki i))
    (h0 : 0 ≤ i) (h1 : i < n) {val : AV} (hval : if ea then i.toNat * es + es ≤ cs.length ∧ val = .agg ((cs.drop (i.toNat * es)).take es) else ∃ c, cs[i.toNat * es]? = some c ∧ val = .c c) (hk : K val [] []) : Snd P o ρ h K := by
  obtain ⟨_, _, _, _, _, _, _, _, _, _, hkd'⟩ := tyOf_spec ht
  rw [hkd'] at hkd
  obtain ⟨e, ie, d, hu, hie, hes, hd, hea⟩ := kind_array hkd
  refine Snd.pure hk fun μ w a hops => ?_
  have hv := hops x (by simp [ho, Op.operands])
  rw [hx] at hv
  obtain ⟨vs, he, hr⟩ := hv.agg_inv
  have hv2 := hops ix (by simp [ho, Op.operands])
  rw [hix] at hv2
  have he2 : a.eval ix = .int ki i := hv2.c_inv
  have hisAgg : (isAgg e).run P w = .ok ea w := by
    rw [hea]
    unfold isAggT
    simp only [isAgg, Sem.run_bind, run_underlying hd, Result.andThen_ok, hd]
    cases d <;> rfl
  have hex : (execOp a.eval o).run P w = ((part e vs.toArray (i.toNat * es)).run P w).andThen fun v w' => .ok (.value v) w' := by
    simp [execOp, ho, he, he2, Instr.index, asIntOf, run_underlying hu, sizeOf, typeInfo, hie, h0, h1, hes]
  cases hE : ea with
  | true =>
    rw [hE] at hval hisAgg
    simp only [if_true] at hval
    refine ⟨.agg (vs.toArray.extract (i.toNat * es) (i.toNat * es + es)), ?_, ?_⟩
    · rw [hex]; simp [part, hisAgg, sizeOf, typeInfo, hie, hes]
    · rw [hval.2]
      have e1 : vs.toArray.extract (i.toNat * es) (i.toNat * es + es) = ((vs.drop (i.toNat * es)).take es).toArray := by
        apply Array.ext'
        simp [List.extract_eq_take_drop]
      rw [e1]
      refine .agg (RepCs.mk (by have := hr.length; simp; omega) fun j c hc => ?_)
      simp only [List.getElem?_take, List.getElem?_drop] at hc ⊢
      split at hc
      · rename_i hj
        rw [if_pos hj]; exact hr.get _ _ hc
      · cases hc
  | false =>
    rw [hE] at hval hisAgg
    simp only [Bool.false_eq_true, if_false] at hval
    obtain ⟨c, hc, rfl⟩ := hval
    obtain ⟨v, hv3, hrep⟩ := hr.get _ _ hc
    refine ⟨v, ?_, .c hrep⟩
    rw [hex]; simp [part, hisAgg, hv3]

theorem snd_extract {x : Operand} {i : Nat} (ho : o.op = .extract x i) {vs : List AV} {v : AV} (hx : ρ x = .tup vs) (hi : vs[i]? = some v) (hk : K v [] []) : Snd P o ρ h K := by
  refine Snd.pure hk fun μ w a hops => ?_
  have hv := hops x (by simp [ho, Op.operands])
  rw [hx] at hv
  obtain ⟨us, he, hl, hr⟩ := hv.tup_inv
  have : i < us.length := by rw [← hl]; exact (List.getElem?_eq_some_iff.1 hi).1
  have h1 : us[i]? = some us[i] := List.getElem?_eq_getElem this
  exact ⟨us[i], by simp [execOp, ho, he, Instr.extract, h1], hr i v _ hi h1⟩

theorem RepVs.of_map {μ : LMap} {a : Act} : ∀ (xs : List Operand) {as : List AV} {vs : List Value}, (∀ x ∈ xs, RepV μ (ρ x) (a.eval x)) → RepVs μ as vs → RepVs μ (xs.map ρ ++ as) (xs.map a.eval ++ vs)
  | [], _, _, _, h => h
  | x :: xs, _, _, hx, h => ⟨hx x (by simp), RepVs.of_map xs (fun y hy => hx y (by simp [hy])) h⟩
theorem RepVs.of_caps {μ : LMap} : ∀ {ps : List (Nat × Nat)} {vs : List Value}, RepPs μ ps vs → RepVs μ (ps.map fun p => .c (.ptr p.1 p.2)) vs
  | [], [], _ => trivial
  | _ :: _, _ :: _, h => ⟨.c h.1, RepVs.of_caps h.2⟩
  | [], _ :: _, h => h.elim
  | _ :: _, [], h => h.elim

theorem snd_call {c : Call} (ho : o.op = .call c) {f : Operand} (hc : c.callee = .value f) {g : FuncId} {caps : List (Nat × Nat)} (hf : ρ f = .c (.fn g caps)) (hk : callE P g (c.args.toList.map ρ ++ caps.map fun p => .c (.ptr p.1 p.2)) h K) : Snd P o ρ h K := by
  obtain ⟨val, reads, writes, hspec, h1, h2, hK⟩ := hk
  refine ⟨val, reads, writes, ?_, h1, h2, hK⟩
  intro B μ G w a next Q hR hfin hreads hwrites hops hn
  have hv := hops f (by simp [ho, Op.operands, Call.operands, hc])
  rw [hf] at hv
  obtain ⟨vs, he, hps⟩ := hv.c_inv
  obtain ⟨hcall, hcalls⟩ := hspec
  have hargs : RepVs μ (c.args.toList.map ρ ++ caps.map fun p => .c (.ptr p.1 p.2)) ((c.args.map a.eval).toList ++ vs) := by
    rw [Array.toList_map]
    exact RepVs.of_map _ (fun x hx => hops x (by simp [ho, Op.operands, Call.operands]; right; simpa using hx)) (RepVs.of_caps hps)
  have hc' := hcalls B μ G w _ hR hfin hreads hwrites hargs
  have hrun : (execOp a.eval o).run P w = .ok (.enter g ((c.args.map a.eval).toList ++ vs).toArray) w := by
    unfold callable at hcall
    split at hcall
    · rename_i fn hfn
      simp only [Bool.and_eq_true, Bool.not_eq_true', beq_eq_false_iff_ne, ne_eq] at hcall
      have hname : ¬ fn.name = "runtime.NumGoroutine" := by simpa using hcall.1
      have hbody : ¬ fn.body = none := by
        intro hb; rw [hb] at hcall; simp at hcall
      have eargs : #[] ++ Array.map a.eval c.args ++ vs.toArray = ((c.args.map a.eval).toList ++ vs).toArray := by
        apply Array.ext'; simp
      simp [execOp, ho, resolve, hc, he, Deferred.ofValue, invoke, callFunc, hfn, hname, hbody]
    · cases hcall
  unfold Oper.wp
  rw [hrun]
  refine hc'.mono ?_
  rintro e w' ⟨v, μ', rfl, hle, hval, hrel, hbel⟩
  exact hn v μ' w' hle hval hrel hbel

theorem snd_len {c : Call} (ho : o.op = .call c) (hc : c.callee = .builtin .len) {t : TypeId} {x : Operand} (hat : c.argTypes = #[t]) (hax : c.args = #[x]) {ti : TyI} (ht : tyOf P t = some ti)
    (hk : match ti.kind, ρ x with
        | .slice _ _ _, .c (.slice _ _ len _) => K (.c (.int .i64 len)) [] []
        | .slice _ _ _, .c .nils => K (.c (.int .i64 0)) [] []
        | .array n _ _, _ => K (.c (.int .i64 n)) [] []
        | .str, .c (.str s) => K (.c (.int .i64 s.size)) [] []
        | _, _ => False) : Snd P o ρ h K := by
  obtain ⟨_, _, _, _, _, _, _, _, _, _, hkd'⟩ := tyOf_spec ht
  have hop : x ∈ o.op.operands := by simp [ho, Op.operands, Call.operands, hc, hax]
  split at hk
  · rename_i es eb ez k off len es2 hkd hx
    rw [hkd'] at hkd
    obtain ⟨e, ie, z, hu, _⟩ := kind_slice hkd
    refine Snd.pure hk fun μ w a hops => ?_
    have hv := hops x hop
    rw [hx] at hv
    obtain ⟨l, p, cap, hl, he, _⟩ := hv.c_inv
    exact ⟨.int .i64 len, by simp [execOp, ho, resolve, hc, hat, hax, invoke, builtin, Builtin.len_, he, run_underlying hu, goInt], .c rfl⟩
  · rename_i es eb ez hkd hx
    rw [hkd'] at hkd
    obtain ⟨e, ie, z, hu, _⟩ := kind_slice hkd
    refine Snd.pure hk fun μ w a hops => ?_
    have hv := hops x hop
    rw [hx] at hv
    have he : a.eval x = .slice none 0 0 := hv.c_inv
    exact ⟨.int .i64 0, by simp [execOp, ho, resolve, hc, hat, hax, invoke, builtin, Builtin.len_, he, run_underlying hu, goInt], .c rfl⟩
  · rename_i n es ea hkd
    rw [hkd'] at hkd
    obtain ⟨e, ie, _, hu, _⟩ := kind_array hkd
    refine Snd.pure hk fun μ w a hops => ?_
    exact ⟨.int .i64 n, by simp [execOp, ho, resolve, hc, hat, hax, invoke, builtin, Builtin.len_, run_underlying hu, goInt], .c rfl⟩
  · rename_i s hkd hx
    rw [hkd'] at hkd
    have hu := kind_str hkd
    refine Snd.pure hk fun μ w a hops => ?_
    have hv := hops x hop
    rw [hx] at hv
    have he : a.eval x = .string s := hv.c_inv
    exact ⟨.int .i64 s.size, by simp [execOp, ho, resolve, hc, hat, hax, invoke, builtin, Builtin.len_, he, run_underlying hu, goInt], .c rfl⟩
  · exact hk.elim
theorem snd_max {c : Call} (ho : o.op = .call c) (hc : c.callee = .builtin .max) {x y : Operand} {k : IntKind} {m n : Int} (hax : c.args = #[x, y]) (hx : ρ x = .c (.int k m)) (hy : ρ y = .c (.int k n)) (hk : K (.c (.int k (if n > m then n else m))) [] []) : Snd P o ρ h K := by
  refine Snd.pure hk fun μ w a hops => ?_
  have h1 := hops x (by simp [ho, Op.operands, Call.operands, hc, hax])
  have h2 := hops y (by simp [ho, Op.operands, Call.operands, hc, hax])
  rw [hx] at h1
  rw [hy] at h2
  have e1 : a.eval x = .int k m := h1.c_inv
  have e2 : a.eval y = .int k n := h2.c_inv
  exact ⟨.int k (if n > m then n else m), by simp [execOp, ho, resolve, hc, hax, invoke, builtin, e1, e2, Builtin.max_, Builtin.max2], .c rfl⟩
theorem snd_min {c : Call} (ho : o.op = .call c) (hc : c.callee = .builtin .min) {x y : Operand} {k : IntKind} {m n : Int} (hax : c.args = #[x, y]) (hx : ρ x = .c (.int k m)) (hy : ρ y = .c (.int k n)) (hk : K (.c (.int k (if n < m then n else m))) [] []) : Snd P o ρ h K := by
  refine Snd.pure hk fun μ w a hops => ?_
  have h1 := hops x (by simp [ho, Op.operands, Call.operands, hc, hax])
  have h2 := hops y (by simp [ho, Op.operands, Call.operands, hc, hax])
  rw [hx] at h1
  rw [hy] at h2
  have e1 : a.eval x = .int k m := h1.c_inv
  have e2 : a.eval y = .int k n := h2.c_inv
  exact ⟨.int k (if n < m then n else m), by simp [execOp, ho, resolve, hc, hax, invoke, builtin, e1, e2, Builtin.min_, Builtin.min2], .c rfl⟩
end
end Go.Abs
