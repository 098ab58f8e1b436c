/- Operations on numbers: what they come to. -/
import Derived.Test.YtgkknajopejleaaAbsD
import Derived.ChangeKeysEq
namespace Go.Abs
open Go.RowKit (Below)

/-! ### Equality of arrays of numbers -/
theorem sameInts_length : ∀ {xs ys : List Cell}, sameInts xs ys = true → xs.length = ys.length
  | [], [], _ => rfl
  | x :: xs, y :: ys, h => by
    cases x <;> cases y <;> simp [sameInts] at h
    simp [sameInts_length h.2]
  | [], _ :: _, h => by simp [sameInts] at h
  | x :: _, [], h => by cases x <;> simp [sameInts] at h
theorem sameInts_drop : ∀ (n : Nat) {xs ys : List Cell}, sameInts xs ys = true → sameInts (xs.drop n) (ys.drop n) = true
  | 0, _, _, h => h
  | n + 1, [], [], _ => by simp [sameInts]
  | n + 1, x :: xs, y :: ys, h => by
    cases x <;> cases y <;> simp [sameInts] at h
    simpa using sameInts_drop n h.2
  | _ + 1, [], _ :: _, h => by simp [sameInts] at h
  | _ + 1, x :: _, [], h => by cases x <;> simp [sameInts] at h
theorem sameInts_take : ∀ (n : Nat) {xs ys : List Cell}, sameInts xs ys = true → sameInts (xs.take n) (ys.take n) = true
  | 0, _, _, _ => by simp [sameInts]
  | n + 1, [], [], _ => by simp [sameInts]
  | n + 1, x :: xs, y :: ys, h => by
    cases x <;> cases y <;> simp [sameInts] at h
    simpa [sameInts, h.1] using sameInts_take n h.2
  | _ + 1, [], _ :: _, h => by simp [sameInts] at h
  | _ + 1, x :: _, [], h => by cases x <;> simp [sameInts] at h
theorem intsEq_append : ∀ {xs ys : List Cell} (xs' ys' : List Cell), sameInts xs ys = true → intsEq (xs ++ xs') (ys ++ ys') = (intsEq xs ys && intsEq xs' ys')
  | [], [], _, _, _ => by simp [intsEq]
  | x :: xs, y :: ys, xs', ys', h => by
    cases x <;> cases y <;> simp [sameInts] at h
    simp [intsEq, intsEq_append xs' ys' h.2, Bool.and_assoc]
  | [], _ :: _, _, _, h => by simp [sameInts] at h
  | x :: _, [], _, _, h => by cases x <;> simp [sameInts] at h

def asV (P : Program) (t : TypeId) (vs : List Value) : Value := if isAggT P t then .agg vs.toArray else vs.headD undef

theorem run_part_asV {P : Program} (w : World) {e : TypeId} {ie : TypeInfo} {d : TypeDesc} (hie : P.info? e = some ie) (hd : P.underlying e = some d) (vs : List Value) (off : Nat) (hle : off + ie.size ≤ vs.length) (h1 : isAggT P e = false → ie.size = 1) :
    (part e vs.toArray off).run P w = .ok (asV P e ((vs.drop off).take ie.size)) w := by
  have hisAgg : (isAgg e).run P w = .ok (isAggT P e) w := by
    unfold isAggT
    simp only [isAgg, Sem.run_bind, run_underlying hd, Result.andThen_ok, hd]
    cases d <;> rfl
  cases hE : isAggT P e with
  | true =>
    rw [hE] at hisAgg
    simp only [part, Sem.run_bind, hisAgg, Result.andThen_ok, if_true, sizeOf, typeInfo, run_program, hie, Sem.run_pure, asV, hE]
    congr 2
    apply Array.ext'
    simp [List.extract_eq_take_drop]
  | false =>
    rw [hE] at hisAgg
    have h2 := h1 hE
    have hlt : off < vs.length := by omega
    have e1 : (vs.drop off).take ie.size = [vs[off]] := by
      rw [h2]
      rw [List.drop_eq_getElem_cons hlt]; rfl
    simp [part, hisAgg, asV, hE, e1, hlt]

theorem intArr_spec {P : Program} : ∀ (m : Nat) {t : TypeId}, intArr P m t = true → ∃ i d, P.info? t = some i ∧ P.underlying t = some d ∧ (isAggT P t = false → i.size = 1)
  | 0, _, h => by simp [intArr] at h
  | m + 1, t, h => by
    simp only [intArr] at h
    split at h
    · rename_i k hu
      cases hi : P.info? t with
      | none => simp [hi] at h
      | some i => exact ⟨i, _, rfl, hu, fun _ => by simpa [hi] using h⟩
    · rename_i n e hu
      cases hi : P.info? t with
      | none => simp [hi] at h
      | some i => exact ⟨i, _, rfl, hu, fun hA => by simp [isAggT, hu] at hA⟩
    · cases h

theorem run_equalIn_ints {P : Program} {μ : LMap} (dd : Nat) : ∀ (m : Nat) {t : TypeId} {i : TypeInfo}, intArr P m t = true → P.info? t = some i → ∀ (w : World) {cs ds : List Cell} {vs us : List Value},
    sameInts cs ds = true → RepCs μ cs vs → RepCs μ ds us → cs.length = i.size → (Op.equalIn (dd + m) t (asV P t vs) (asV P t us)).run P w = .ok (intsEq cs ds) w
  | 0, _, _, h, _ => by simp [intArr] at h
  | m + 1, t, i, h, hi => by
    intro w cs ds vs us hs hv hu' hl
    have hlen := sameInts_length hs
    have hvl := hv.length
    have hul := hu'.length
    simp only [intArr] at h
    split at h
    · rename_i k hu
      have hsz : i.size = 1 := by simpa [hi] using h
      have hA : isAggT P t = false := by simp [isAggT, hu]
      obtain ⟨c, rfl⟩ := List.length_eq_one_iff.1 (hl.trans hsz)
      obtain ⟨d, rfl⟩ := List.length_eq_one_iff.1 (hlen.symm.trans rfl)
      obtain ⟨v, rfl⟩ := List.length_eq_one_iff.1 (hvl.symm.trans rfl)
      obtain ⟨u, rfl⟩ := List.length_eq_one_iff.1 (hul.symm.trans rfl)
      cases c <;> cases d <;> simp [sameInts] at hs
      rename_i k1 a k2 b
      subst hs
      have e1 : v = .int k1 a := hv.1
      have e2 : u = .int k1 b := hu'.1
      simp only [asV, hA, e1, e2, intsEq, Bool.false_eq_true, if_false, List.headD_cons, Bool.and_true]
      exact run_equalIn_int w (dd + m) t _ _ a b hu
    · rename_i n e hu
      simp only [hi, Option.map_some, Bool.and_eq_true, beq_iff_eq, Option.some.injEq] at h
      obtain ⟨hsz, hm⟩ := h
      obtain ⟨ie, de, hie, hde, h1⟩ := intArr_spec m hm
      have hce : P.cellsOf e = ie.size := by simp [Program.cellsOf, hie]
      have hA : isAggT P t = true := by simp [isAggT, hu]
      simp only [asV, hA, if_true]
      rw [← Nat.add_assoc, Go.run_equalIn_array w (dd + m) vs.toArray us.toArray hu hie, hce]
      rw [hce] at hsz
      have key : ∀ (k j : Nat), j + k = n → (Op.eqItems (dd + m) e ie.size vs.toArray us.toArray (List.range' j k)).run P w = .ok (intsEq (cs.drop (j * ie.size)) (ds.drop (j * ie.size))) w := by
        intro k
        induction k with
        | zero =>
          intro j hj
          have hd0 : cs.drop (j * ie.size) = [] := by
            apply List.drop_eq_nil_of_le
            rw [hl, hsz, show j = n from by omega]
            exact Nat.le_refl _
          simp [Op.eqItems, hd0, intsEq]
        | succ k ih =>
          intro j hj
          have hjn : j * ie.size + ie.size ≤ n * ie.size := by
            have : (j + 1) * ie.size ≤ n * ie.size := Nat.mul_le_mul_right _ (by omega)
            rwa [Nat.add_mul, Nat.one_mul] at this
          have ec : cs.drop (j * ie.size) = (cs.drop (j * ie.size)).take ie.size ++ cs.drop ((j + 1) * ie.size) := by
            have := (List.take_append_drop ie.size (cs.drop (j * ie.size))).symm
            rw [List.drop_drop] at this
            rw [Nat.add_mul, Nat.one_mul]; exact this
          have ed : ds.drop (j * ie.size) = (ds.drop (j * ie.size)).take ie.size ++ ds.drop ((j + 1) * ie.size) := by
            have := (List.take_append_drop ie.size (ds.drop (j * ie.size))).symm
            rw [List.drop_drop] at this
            rw [Nat.add_mul, Nat.one_mul]; exact this
          have hst := sameInts_take ie.size (sameInts_drop (j * ie.size) hs)
          rw [ec, ed, intsEq_append _ _ hst]
          have p1 := run_part_asV (P := P) w hie hde vs (j * ie.size) (by omega) h1
          have p2 := run_part_asV (P := P) w hie hde us (j * ie.size) (by omega) h1
          have sub : ∀ {cs : List Cell} {vs : List Value}, RepCs μ cs vs → RepCs μ ((cs.drop (j * ie.size)).take ie.size) ((vs.drop (j * ie.size)).take ie.size) := by
            intro cs vs hr
            refine RepCs.mk (by simp [hr.length]) fun x c hc => ?_
            simp only [List.getElem?_take, List.getElem?_drop] at hc ⊢
            split at hc
            · rename_i hx; rw [if_pos hx]; exact hr.get _ _ hc
            · cases hc
          have p3 := run_equalIn_ints dd m hm hie w hst (sub hv) (sub hu') (by simp; omega)
          simp only [List.range'_succ, Op.eqItems, Sem.run_bind, p1, p2, p3, Result.andThen_ok]
          cases hb : intsEq ((cs.drop (j * ie.size)).take ie.size) ((ds.drop (j * ie.size)).take ie.size)
          · simp
          · have := ih (j + 1) (by omega)
            simp [this]
      have := key n 0 (by omega)
      rw [List.range_eq_range']
      simpa using this
    · cases h

section
variable {P : Program} {o : Oper} {ρ : Operand → AV} {h : AHeap} {K : Kont}

theorem run_eqGuard_int {op : BinOp} {t : TypeId} {x y : Operand} {k k' : IntKind} {m n : Int} (w : World) : (eqGuard op t x y (.int k m) (.int k' n)).run P w = .ok () w := by
  unfold eqGuard; cases op <;> simp
theorem run_eqGuard_bool {op : BinOp} {t : TypeId} {x y : Operand} {m n : Bool} (w : World) : (eqGuard op t x y (.bool m) (.bool n)).run P w = .ok () w := by
  unfold eqGuard; cases op <;> simp

def cellV : Cell → Value
  | .int k n => .int k n
  | .bool b => .bool b
  | _ => undef

theorem snd_binInt {op : BinOp} {t t' : TypeId} {x y : Operand} (ho : o.op = .binOp op t x y t') {k k' : IntKind} {m n : Int} (hx : ρ x = .c (.int k m)) (hy : ρ y = .c (.int k' n)) {val : Cell} (hk : K (.c val) [] []) (hs : ∀ μ, RepC μ val (cellV val))
    (hr : ∀ w, (binOp op t (.int k m) (.int k' n)).run P w = .ok (cellV val) w) : Snd P o ρ h K := by
  refine Snd.pure hk fun μ w a hops => ?_
  have h1 := hops x (by simp [ho, Op.operands])
  rw [hx] at h1
  have e1 : a.eval x = .int k m := h1.c_inv
  have h2 := hops y (by simp [ho, Op.operands])
  rw [hy] at h2
  have e2 : a.eval y = .int k' n := h2.c_inv
  exact ⟨cellV val, by simp [execOp, ho, e1, e2, hr, run_eqGuard_int], .c (hs μ)⟩

theorem snd_binE {op : BinOp} {t t' : TypeId} {x y : Operand} (ho : o.op = .binOp op t x y t') (hk : binE P op t (ρ x) (ρ y) fun v => K v [] []) : Snd P o ρ h K := by
  unfold binE at hk
  split at hk
  · rename_i k m k' n hx hy
    cases op <;> simp only at hk
    case add => obtain ⟨rfl, hk⟩ := hk; exact snd_binInt ho hx hy hk (fun _ => rfl) (fun w => by simp [cellV, binOp, Op.intArith])
    case sub => obtain ⟨rfl, hk⟩ := hk; exact snd_binInt ho hx hy hk (fun _ => rfl) (fun w => by simp [cellV, binOp, Op.intArith])
    case mul => obtain ⟨rfl, hk⟩ := hk; exact snd_binInt ho hx hy hk (fun _ => rfl) (fun w => by simp [cellV, binOp, Op.intArith])
    case quo => obtain ⟨rfl, hn, hk⟩ := hk; exact snd_binInt ho hx hy hk (fun _ => rfl) (fun w => by simp [cellV, binOp, Op.intDiv, hn])
    case rem => obtain ⟨rfl, hn, hk⟩ := hk; exact snd_binInt ho hx hy hk (fun _ => rfl) (fun w => by simp [cellV, binOp, Op.intDiv, hn])
    case and => obtain ⟨rfl, hk⟩ := hk; exact snd_binInt ho hx hy hk (fun _ => rfl) (fun w => by simp [cellV, binOp, Op.intBits])
    case shl => obtain ⟨hn, hk⟩ := hk; exact snd_binInt ho hx hy hk (fun _ => rfl) (fun w => by simp [cellV, binOp, Op.shift, Int.not_lt.2 hn])
    case shr => obtain ⟨hn, hk⟩ := hk; exact snd_binInt ho hx hy hk (fun _ => rfl) (fun w => by simp [cellV, binOp, Op.shift, Int.not_lt.2 hn])
    case eql => obtain ⟨rfl, hk⟩ := hk; exact snd_binInt ho hx hy hk (fun _ => rfl) (fun w => by simp [cellV, binOp, Op.intCmp])
    case neq => obtain ⟨rfl, hk⟩ := hk; exact snd_binInt ho hx hy hk (fun _ => rfl) (fun w => by simp [cellV, binOp, Op.intCmp])
    case lss => obtain ⟨rfl, hk⟩ := hk; exact snd_binInt ho hx hy hk (fun _ => rfl) (fun w => by simp [cellV, binOp, Op.intCmp])
    case leq => obtain ⟨rfl, hk⟩ := hk; exact snd_binInt ho hx hy hk (fun _ => rfl) (fun w => by simp [cellV, binOp, Op.intCmp])
    case gtr => obtain ⟨rfl, hk⟩ := hk; exact snd_binInt ho hx hy hk (fun _ => rfl) (fun w => by simp [cellV, binOp, Op.intCmp])
    case geq => obtain ⟨rfl, hk⟩ := hk; exact snd_binInt ho hx hy hk (fun _ => rfl) (fun w => by simp [cellV, binOp, Op.intCmp])
    all_goals exact hk.elim
  · rename_i p q hx hy
    have gen : ∀ (val : Bool), K (.c (.bool val)) [] [] → (∀ w, (binOp op t (.bool p) (.bool q)).run P w = .ok (.bool val) w) → Snd P o ρ h K := by
      intro val hk hr
      refine Snd.pure hk fun μ w a hops => ?_
      have h1 := hops x (by simp [ho, Op.operands])
      rw [hx] at h1
      have e1 : a.eval x = .bool p := h1.c_inv
      have h2 := hops y (by simp [ho, Op.operands])
      rw [hy] at h2
      have e2 : a.eval y = .bool q := h2.c_inv
      exact ⟨.bool val, by simp [execOp, ho, e1, e2, hr, run_eqGuard_bool], .c rfl⟩
    cases op <;> simp only at hk
    case eql => exact gen _ hk.2 (fun w => by simp [binOp, run_equal_bool w t p q hk.1])
    case neq => exact gen _ hk.2 (fun w => by simp [binOp, run_equal_bool w t p q hk.1]; cases p <;> cases q <;> rfl)
    all_goals exact hk.elim
  · rename_i xs ys hx hy
    have gen : ∀ (f : Bool → Bool), eqArr P t = true → (P.info? t).map (·.size) = some xs.length → sameInts xs ys = true → K (.c (.bool (f (intsEq xs ys)))) [] [] →
        (∀ (vs us : Array Value) w, (binOp op t (.agg vs) (.agg us)).run P w = ((Op.equalIn 10000 t (.agg vs) (.agg us)).run P w).andThen fun b w' => .ok (.bool (f b)) w') → Snd P o ρ h K := by
      intro f ha hsz hs hk hr
      refine Snd.pure hk fun μ w a hops => ?_
      have h1 := hops x (by simp [ho, Op.operands])
      rw [hx] at h1
      obtain ⟨vs, e1, r1⟩ := h1.agg_inv
      have h2 := hops y (by simp [ho, Op.operands])
      rw [hy] at h2
      obtain ⟨us, e2, r2⟩ := h2.agg_inv
      simp only [eqArr, Bool.and_eq_true, Bool.not_eq_true'] at ha
      obtain ⟨⟨hg, hia⟩, hA⟩ := ha
      cases hi : P.info? t with
      | none => simp [hi] at hsz
      | some i =>
        have := run_equalIn_ints 9996 4 hia hi w hs r1 r2 (by simpa [hi] using hsz.symm)
        simp only [asV, hA, if_true] at this
        refine ⟨.bool (f (intsEq xs ys)), ?_, .c rfl⟩
        simp [execOp, ho, e1, e2, hr, run_eqGuard_agg w op t x y _ _ hg, this]
    cases op <;> simp only at hk
    case eql => exact gen id hk.1 hk.2.1 hk.2.2.1 hk.2.2.2 (fun vs us w => run_eql_struct w t vs us)
    case neq => exact gen (!·) hk.1 hk.2.1 hk.2.2.1 hk.2.2.2 (fun vs us w => run_neq_struct w t vs us)
    all_goals exact hk.elim
  · exact hk.elim
end
end Go.Abs
