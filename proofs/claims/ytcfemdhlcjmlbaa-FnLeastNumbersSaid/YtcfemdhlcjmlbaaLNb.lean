/- What the row needs, part 2 of 17: the texts Ab, without what it does not use. -/
import Derived.ChangeKeysEq
import Derived.Laws.AppendOwn
import Derived.Test.YtcfemdhlcjmlbaaLNa
/- Operations on numbers, slices, appends; regions. -/

/- Operations on numbers: what they come to. -/
namespace Go.Abs
open Go.RowKit (Below)

/-! ### Equality of arrays of numbers -/
theorem sameInts_length : ∀ {xs ys : List Cell}, sameInts xs ys = true → xs.length = ys.length
  | [], [], _ => rfl
  | x :: xs, y :: ys, h => by
    cases x <;> cases y <;> simp [sameInts] at h
    simp [sameInts_length h.2]
  | [], _ :: _, h => by simp [sameInts] at h
  | x :: _, [], h => by cases x <;> simp [sameInts] at h
theorem sameInts_drop : ∀ (n : Nat) {xs ys : List Cell}, sameInts xs ys = true → sameInts (xs.drop n) (ys.drop n) = true
  | 0, _, _, h => h
  | n + 1, [], [], _ => by simp [sameInts]
  | n + 1, x :: xs, y :: ys, h => by
    cases x <;> cases y <;> simp [sameInts] at h
    simpa using sameInts_drop n h.2
  | _ + 1, [], _ :: _, h => by simp [sameInts] at h
  | _ + 1, x :: _, [], h => by cases x <;> simp [sameInts] at h
theorem sameInts_take : ∀ (n : Nat) {xs ys : List Cell}, sameInts xs ys = true → sameInts (xs.take n) (ys.take n) = true
  | 0, _, _, _ => by simp [sameInts]
  | n + 1, [], [], _ => by simp [sameInts]
  | n + 1, x :: xs, y :: ys, h => by
    cases x <;> cases y <;> simp [sameInts] at h
    simpa [sameInts, h.1] using sameInts_take n h.2
  | _ + 1, [], _ :: _, h => by simp [sameInts] at h
  | _ + 1, x :: _, [], h => by cases x <;> simp [sameInts] at h
theorem intsEq_append : ∀ {xs ys : List Cell} (xs' ys' : List Cell), sameInts xs ys = true → intsEq (xs ++ xs') (ys ++ ys') = (intsEq xs ys && intsEq xs' ys')
  | [], [], _, _, _ => by simp [intsEq]
  | x :: xs, y :: ys, xs', ys', h => by
    cases x <;> cases y <;> simp [sameInts] at h
    simp [intsEq, intsEq_append xs' ys' h.2, Bool.and_assoc]
  | [], _ :: _, _, _, h => by simp [sameInts] at h
  | x :: _, [], _, _, h => by cases x <;> simp [sameInts] at h

def asV (P : Program) (t : TypeId) (vs : List Value) : Value := if isAggT P t then .agg vs.toArray else vs.headD undef

theorem run_part_asV {P : Program} (w : World) {e : TypeId} {ie : TypeInfo} {d : TypeDesc} (hie : P.info? e = some ie) (hd : P.underlying e = some d) (vs : List Value) (off : Nat) (hle : off + ie.size ≤ vs.length) (h1 : isAggT P e = false → ie.size = 1) :
    (part e vs.toArray off).run P w = .ok (asV P e ((vs.drop off).take ie.size)) w := by
  have hisAgg : (isAgg e).run P w = .ok (isAggT P e) w := by
    unfold isAggT
    simp only [isAgg, Sem.run_bind, run_underlying hd, Result.andThen_ok, hd]
    cases d <;> rfl
  cases hE : isAggT P e with
  | true =>
    rw [hE] at hisAgg
    simp only [part, Sem.run_bind, hisAgg, Result.andThen_ok, if_true, sizeOf, typeInfo, run_program, hie, Sem.run_pure, asV, hE]
    congr 2
    apply Array.ext'
    simp [List.extract_eq_take_drop]
  | false =>
    rw [hE] at hisAgg
    have h2 := h1 hE
    have hlt : off < vs.length := by omega
    have e1 : (vs.drop off).take ie.size = [vs[off]] := by
      rw [h2]
      rw [List.drop_eq_getElem_cons hlt]; rfl
    simp [part, hisAgg, asV, hE, e1, hlt]

theorem intArr_spec {P : Program} : ∀ (m : Nat) {t : TypeId}, intArr P m t = true → ∃ i d, P.info? t = some i ∧ P.underlying t = some d ∧ (isAggT P t = false → i.size = 1)
  | 0, _, h => by simp [intArr] at h
  | m + 1, t, h => by
    simp only [intArr] at h
    split at h
    · rename_i k hu
      cases hi : P.info? t with
      | none => simp [hi] at h
      | some i => exact ⟨i, _, rfl, hu, fun _ => by simpa [hi] using h⟩
    · rename_i n e hu
      cases hi : P.info? t with
      | none => simp [hi] at h
      | some i => exact ⟨i, _, rfl, hu, fun hA => by simp [isAggT, hu] at hA⟩
    · rename_i fs hu
      have hA : isAggT P t = true := by simp [isAggT, hu]
      cases hi : P.info? t with
      | none => exact absurd hu (by simp [Program.underlying, hi])
      | some i => exact ⟨i, _, rfl, hu, fun h => by rw [hA] at h; cases h⟩
    · cases h

theorem run_equalIn_ints {P : Program} {μ : LMap} (dd : Nat) : ∀ (m : Nat) {t : TypeId} {i : TypeInfo}, intArr P m t = true → P.info? t = some i → ∀ (w : World) {cs ds : List Cell} {vs us : List Value},
    sameInts cs ds = true → RepCs μ cs vs → RepCs μ ds us → cs.length = i.size → (Op.equalIn (dd + m) t (asV P t vs) (asV P t us)).run P w = .ok (intsEq cs ds) w
  | 0, _, _, h, _ => by simp [intArr] at h
  | m + 1, t, i, h, hi => by
    intro w cs ds vs us hs hv hu' hl
    have hlen := sameInts_length hs
    have hvl := hv.length
    have hul := hu'.length
    simp only [intArr] at h
    split at h
    · rename_i k hu
      have hsz : i.size = 1 := by simpa [hi] using h
      have hA : isAggT P t = false := by simp [isAggT, hu]
      obtain ⟨c, rfl⟩ := List.length_eq_one_iff.1 (hl.trans hsz)
      obtain ⟨d, rfl⟩ := List.length_eq_one_iff.1 (hlen.symm.trans rfl)
      obtain ⟨v, rfl⟩ := List.length_eq_one_iff.1 (hvl.symm.trans rfl)
      obtain ⟨u, rfl⟩ := List.length_eq_one_iff.1 (hul.symm.trans rfl)
      cases c <;> cases d <;> simp [sameInts] at hs
      rename_i k1 a k2 b
      subst hs
      have e1 : v = .int k1 a := hv.1
      have e2 : u = .int k1 b := hu'.1
      simp only [asV, hA, e1, e2, intsEq, Bool.false_eq_true, if_false, List.headD_cons, Bool.and_true]
      exact run_equalIn_int w (dd + m) t _ _ a b hu
    · rename_i n e hu
      simp only [hi, Option.map_some, Bool.and_eq_true, beq_iff_eq, Option.some.injEq] at h
      obtain ⟨hsz, hm⟩ := h
      obtain ⟨ie, de, hie, hde, h1⟩ := intArr_spec m hm
      have hce : P.cellsOf e = ie.size := by simp [Program.cellsOf, hie]
      have hA : isAggT P t = true := by simp [isAggT, hu]
      simp only [asV, hA, if_true]
      rw [← Nat.add_assoc, Go.run_equalIn_array w (dd + m) vs.toArray us.toArray hu hie, hce]
      rw [hce] at hsz
      have key : ∀ (k j : Nat), j + k = n → (Op.eqItems (dd + m) e ie.size vs.toArray us.toArray (List.range' j k)).run P w = .ok (intsEq (cs.drop (j * ie.size)) (ds.drop (j * ie.size))) w := by
        intro k
        induction k with
        | zero =>
          intro j hj
          have hd0 : cs.drop (j * ie.size) = [] := by
            apply List.drop_eq_nil_of_le
            rw [hl, hsz, show j = n from by omega]
            exact Nat.le_refl _
          simp [Op.eqItems, hd0, intsEq]
        | succ k ih =>
          intro j hj
          have hjn : j * ie.size + ie.size ≤ n * ie.size := by
            have : (j + 1) * ie.size ≤ n * ie.size := Nat.mul_le_mul_right _ (by omega)
            rwa [Nat.add_mul, Nat.one_mul] at this
          have ec : cs.drop (j * ie.size) = (cs.drop (j * ie.size)).take ie.size ++ cs.drop ((j + 1) * ie.size) := by
            have := (List.take_append_drop ie.size (cs.drop (j * ie.size))).symm
            rw [List.drop_drop] at this
            rw [Nat.add_mul, Nat.one_mul]; exact this
          have ed : ds.drop (j * ie.size) = (ds.drop (j * ie.size)).take ie.size ++ ds.drop ((j + 1) * ie.size) := by
            have := (List.take_append_drop ie.size (ds.drop (j * ie.size))).symm
            rw [List.drop_drop] at this
            rw [Nat.add_mul, Nat.one_mul]; exact this
          have hst := sameInts_take ie.size (sameInts_drop (j * ie.size) hs)
          rw [ec, ed, intsEq_append _ _ hst]
          have p1 := run_part_asV (P := P) w hie hde vs (j * ie.size) (by omega) h1
          have p2 := run_part_asV (P := P) w hie hde us (j * ie.size) (by omega) h1
          have sub : ∀ {cs : List Cell} {vs : List Value}, RepCs μ cs vs → RepCs μ ((cs.drop (j * ie.size)).take ie.size) ((vs.drop (j * ie.size)).take ie.size) := by
            intro cs vs hr
            refine RepCs.mk (by simp [hr.length]) fun x c hc => ?_
            simp only [List.getElem?_take, List.getElem?_drop] at hc ⊢
            split at hc
            · rename_i hx; rw [if_pos hx]; exact hr.get _ _ hc
            · cases hc
          have p3 := run_equalIn_ints dd m hm hie w hst (sub hv) (sub hu') (by simp; omega)
          simp only [List.range'_succ, Op.eqItems, Sem.run_bind, p1, p2, p3, Result.andThen_ok]
          cases hb : intsEq ((cs.drop (j * ie.size)).take ie.size) ((ds.drop (j * ie.size)).take ie.size)
          · simp
          · have := ih (j + 1) (by omega)
            simp [this]
      have := key n 0 (by omega)
      rw [List.range_eq_range']
      simpa using this
    · rename_i fs hu
      simp only [Bool.and_eq_true, Bool.not_eq_true'] at h
      obtain ⟨hstd, hf⟩ := h
      have hce0 : P.cellsOf t = i.size := by simp [Program.cellsOf, hi]
      rw [hce0] at hf
      have hA : isAggT P t = true := by simp [isAggT, hu]
      simp only [asV, hA, if_true]
      have hfo : P.fieldsOf t = fs := by simp [Program.fieldsOf, hu]
      rw [show dd + (m + 1) = (dd + m) + 1 from rfl, run_equalIn_struct w (dd + m) t vs.toArray us.toArray (by rw [hfo]; exact hu) hstd, hfo]
      have key : ∀ (fl : List Field) (off : Nat), off ≤ i.size → intFlds P (intArr P m) i.size off fl = true → (Op.eqFields (dd + m) vs.toArray us.toArray fl).run P w = .ok (intsEq (cs.drop off) (ds.drop off)) w := by
        intro fl
        induction fl with
        | nil =>
          intro off ho hfl
          simp only [intFlds, beq_iff_eq] at hfl
          have hd0 : cs.drop off = [] := List.drop_eq_nil_of_le (by omega)
          simp [Op.eqFields, hd0, intsEq]
        | cons f fl ih =>
          intro off ho hfl
          simp only [intFlds, Bool.and_eq_true, bne_iff_ne, ne_eq, beq_iff_eq] at hfl
          obtain ⟨⟨⟨hn, hoff⟩, hm⟩, hrest⟩ := hfl
          obtain ⟨ie, de, hie, hde, h1⟩ := intArr_spec m hm
          have hce : P.cellsOf f.type = ie.size := by simp [Program.cellsOf, hie]
          rw [hce] at hrest
          have hle : off + ie.size ≤ i.size := by
            have gen : ∀ (fl : List Field) (o : Nat), intFlds P (intArr P m) i.size o fl = true → o ≤ i.size := by
              intro fl
              induction fl with
              | nil => intro o h; simp only [intFlds, beq_iff_eq] at h; omega
              | cons g fl ih => intro o h; simp only [intFlds, Bool.and_eq_true] at h; have := ih _ h.2; omega
            exact gen fl _ hrest
          have ec : cs.drop off = (cs.drop off).take ie.size ++ cs.drop (off + ie.size) := by
            have := (List.take_append_drop ie.size (cs.drop off)).symm
            rwa [List.drop_drop] at this
          have ed : ds.drop off = (ds.drop off).take ie.size ++ ds.drop (off + ie.size) := by
            have := (List.take_append_drop ie.size (ds.drop off)).symm
            rwa [List.drop_drop] at this
          have hst := sameInts_take ie.size (sameInts_drop off hs)
          rw [ec, ed, intsEq_append _ _ hst]
          have p1 := run_part_asV (P := P) w hie hde vs off (by omega) h1
          have p2 := run_part_asV (P := P) w hie hde us off (by omega) h1
          have sub : ∀ {cs : List Cell} {vs : List Value}, RepCs μ cs vs → RepCs μ ((cs.drop off).take ie.size) ((vs.drop off).take ie.size) := by
            intro cs vs hr
            refine RepCs.mk (by simp [hr.length]) fun x c hc => ?_
            simp only [List.getElem?_take, List.getElem?_drop] at hc ⊢
            split at hc
            · rename_i hx; rw [if_pos hx]; exact hr.get _ _ hc
            · cases hc
          have p3 := run_equalIn_ints dd m hm hie w hst (sub hv) (sub hu') (by simp; omega)
          simp only [Op.eqFields, hn, ne_eq, not_false_eq_true, if_true, hoff, Sem.run_bind, p1, p2, p3, Result.andThen_ok]
          cases hb : intsEq ((cs.drop off).take ie.size) ((ds.drop off).take ie.size)
          · simp
          · have := ih (off + ie.size) hle hrest
            simp [this]
      have := key fs.toList 0 (Nat.zero_le _) hf
      simpa using this
    · cases h

section
variable {P : Program} {o : Oper} {ρ : Operand → AV} {h : AHeap} {K : Kont}

theorem run_eqGuard_int {op : BinOp} {t : TypeId} {x y : Operand} {k k' : IntKind} {m n : Int} (w : World) : (eqGuard op t x y (.int k m) (.int k' n)).run P w = .ok () w := by
  unfold eqGuard; cases op <;> simp
theorem run_eqGuard_bool {op : BinOp} {t : TypeId} {x y : Operand} {m n : Bool} (w : World) : (eqGuard op t x y (.bool m) (.bool n)).run P w = .ok () w := by
  unfold eqGuard; cases op <;> simp

def cellV : Cell → Value
  | .int k n => .int k n
  | .bool b => .bool b
  | _ => undef

theorem snd_binInt {op : BinOp} {t t' : TypeId} {x y : Operand} (ho : o.op = .binOp op t x y t') {k k' : IntKind} {m n : Int} (hx : ρ x = .c (.int k m)) (hy : ρ y = .c (.int k' n)) {val : Cell} (hk : K (.c val) [] []) (hs : ∀ μ, RepC μ val (cellV val))
    (hr : ∀ w, (binOp op t (.int k m) (.int k' n)).run P w = .ok (cellV val) w) : Snd P o ρ h K := by
  refine Snd.pure hk fun μ w a hops => ?_
  have h1 := hops x (by simp [ho, Op.operands])
  rw [hx] at h1
  have e1 : a.eval x = .int k m := h1.c_inv
  have h2 := hops y (by simp [ho, Op.operands])
  rw [hy] at h2
  have e2 : a.eval y = .int k' n := h2.c_inv
  exact ⟨cellV val, by simp [execOp, ho, e1, e2, hr, run_eqGuard_int], .c (hs μ)⟩

theorem snd_binE {op : BinOp} {t t' : TypeId} {x y : Operand} (ho : o.op = .binOp op t x y t') (hk : binE P op t (ρ x) (ρ y) fun v => K v [] []) : Snd P o ρ h K := by
  unfold binE at hk
  split at hk
  · rename_i k m k' n hx hy
    cases op <;> simp only at hk
    case add => obtain ⟨rfl, hk⟩ := hk; exact snd_binInt ho hx hy hk (fun _ => rfl) (fun w => by simp [cellV, binOp, Op.intArith])
    case sub => obtain ⟨rfl, hk⟩ := hk; exact snd_binInt ho hx hy hk (fun _ => rfl) (fun w => by simp [cellV, binOp, Op.intArith])
    case mul => obtain ⟨rfl, hk⟩ := hk; exact snd_binInt ho hx hy hk (fun _ => rfl) (fun w => by simp [cellV, binOp, Op.intArith])
    case quo => obtain ⟨rfl, hn, hk⟩ := hk; exact snd_binInt ho hx hy hk (fun _ => rfl) (fun w => by simp [cellV, binOp, Op.intDiv, hn])
    case rem => obtain ⟨rfl, hn, hk⟩ := hk; exact snd_binInt ho hx hy hk (fun _ => rfl) (fun w => by simp [cellV, binOp, Op.intDiv, hn])
    case and => obtain ⟨rfl, hk⟩ := hk; exact snd_binInt ho hx hy hk (fun _ => rfl) (fun w => by simp [cellV, binOp, Op.intBits])
    case shl => obtain ⟨hn, hk⟩ := hk; exact snd_binInt ho hx hy hk (fun _ => rfl) (fun w => by simp [cellV, binOp, Op.shift, Int.not_lt.2 hn])
    case shr => obtain ⟨hn, hk⟩ := hk; exact snd_binInt ho hx hy hk (fun _ => rfl) (fun w => by simp [cellV, binOp, Op.shift, Int.not_lt.2 hn])
    case eql => obtain ⟨rfl, hk⟩ := hk; exact snd_binInt ho hx hy hk (fun _ => rfl) (fun w => by simp [cellV, binOp, Op.intCmp])
    case neq => obtain ⟨rfl, hk⟩ := hk; exact snd_binInt ho hx hy hk (fun _ => rfl) (fun w => by simp [cellV, binOp, Op.intCmp])
    case lss => obtain ⟨rfl, hk⟩ := hk; exact snd_binInt ho hx hy hk (fun _ => rfl) (fun w => by simp [cellV, binOp, Op.intCmp])
    case leq => obtain ⟨rfl, hk⟩ := hk; exact snd_binInt ho hx hy hk (fun _ => rfl) (fun w => by simp [cellV, binOp, Op.intCmp])
    case gtr => obtain ⟨rfl, hk⟩ := hk; exact snd_binInt ho hx hy hk (fun _ => rfl) (fun w => by simp [cellV, binOp, Op.intCmp])
    case geq => obtain ⟨rfl, hk⟩ := hk; exact snd_binInt ho hx hy hk (fun _ => rfl) (fun w => by simp [cellV, binOp, Op.intCmp])
    all_goals exact hk.elim
  · rename_i p q hx hy
    have gen : ∀ (val : Bool), K (.c (.bool val)) [] [] → (∀ w, (binOp op t (.bool p) (.bool q)).run P w = .ok (.bool val) w) → Snd P o ρ h K := by
      intro val hk hr
      refine Snd.pure hk fun μ w a hops => ?_
      have h1 := hops x (by simp [ho, Op.operands])
      rw [hx] at h1
      have e1 : a.eval x = .bool p := h1.c_inv
      have h2 := hops y (by simp [ho, Op.operands])
      rw [hy] at h2
      have e2 : a.eval y = .bool q := h2.c_inv
      exact ⟨.bool val, by simp [execOp, ho, e1, e2, hr, run_eqGuard_bool], .c rfl⟩
    cases op <;> simp only at hk
    case eql => exact gen _ hk.2 (fun w => by simp [binOp, run_equal_bool w t p q hk.1])
    case neq => exact gen _ hk.2 (fun w => by simp [binOp, run_equal_bool w t p q hk.1]; cases p <;> cases q <;> rfl)
    all_goals exact hk.elim
  · rename_i xs ys hx hy
    have gen : ∀ (f : Bool → Bool), eqArr P t = true → (P.info? t).map (·.size) = some xs.length → sameInts xs ys = true → K (.c (.bool (f (intsEq xs ys)))) [] [] →
        (∀ (vs us : Array Value) w, (binOp op t (.agg vs) (.agg us)).run P w = ((Op.equalIn 10000 t (.agg vs) (.agg us)).run P w).andThen fun b w' => .ok (.bool (f b)) w') → Snd P o ρ h K := by
      intro f ha hsz hs hk hr
      refine Snd.pure hk fun μ w a hops => ?_
      have h1 := hops x (by simp [ho, Op.operands])
      rw [hx] at h1
      obtain ⟨vs, e1, r1⟩ := h1.agg_inv
      have h2 := hops y (by simp [ho, Op.operands])
      rw [hy] at h2
      obtain ⟨us, e2, r2⟩ := h2.agg_inv
      simp only [eqArr, Bool.and_eq_true, Bool.not_eq_true'] at ha
      obtain ⟨⟨hg, hia⟩, hA⟩ := ha
      cases hi : P.info? t with
      | none => simp [hi] at hsz
      | some i =>
        have := run_equalIn_ints 9996 4 hia hi w hs r1 r2 (by simpa [hi] using hsz.symm)
        simp only [asV, hA, if_true] at this
        refine ⟨.bool (f (intsEq xs ys)), ?_, .c rfl⟩
        simp [execOp, ho, e1, e2, hr, run_eqGuard_agg w op t x y _ _ hg, this]
    cases op <;> simp only at hk
    case eql => exact gen id hk.1 hk.2.1 hk.2.2.1 hk.2.2.2 (fun vs us w => run_eql_struct w t vs us)
    case neq => exact gen (!·) hk.1 hk.2.1 hk.2.2.1 hk.2.2.2 (fun vs us w => run_neq_struct w t vs us)
    all_goals exact hk.elim
  · exact hk.elim
end
end Go.Abs



/- Made slices, parts of slices, appends; and all operations together. -/
namespace Go.Abs
open Go.RowKit (Below)

section
variable {P : Program} {o : Oper} {ρ : Operand → AV} {h : AHeap} {K : Kont}

theorem Snd.mono {K' : Kont} (hs : Snd P o ρ h K) (hk : ∀ a b c, K a b c → K' a b c) : Snd P o ρ h K' :=
  let ⟨v, r, w, h1, h2, h3, h4⟩ := hs; ⟨v, r, w, h1, h2, h3, hk _ _ _ h4⟩

theorem snd_makeSlice {t : TypeId} {l c : Operand} (ho : o.op = .makeSlice t l c) {ti : TyI} (ht : tyOf P t = some ti) {es eb : Nat} {ez : List Cell} (hkd : ti.kind = .slice es eb ez) (hez : ez.length = es) {kl kc : IntKind} {m n : Int} (hl : ρ l = .c (.int kl m)) (hc : ρ c = .c (.int kc n))
    (h0 : 0 ≤ m) (h1 : m ≤ n) (h2 : n * eb ≤ 70368744177664) (h3 : n ≤ 70368744177664) (hk : K (.c (.slice h.nxt 0 m.toNat es)) [] [(h.nxt, .live ⟨(List.replicate n.toNat ez).flatten, true⟩)]) : Snd P o ρ h K := by
  obtain ⟨i, d, z0, hi, hd, hz0, hzc0, hsz, _, hag, hkd'⟩ := tyOf_spec ht
  rw [hkd'] at hkd
  obtain ⟨e, ie, z, hu, hie, hes, heb, hz, hzc⟩ := kind_slice hkd
  obtain ⟨m', rfl⟩ := Int.eq_ofNat_of_zero_le h0
  obtain ⟨n', rfl⟩ := Int.eq_ofNat_of_zero_le (Int.le_trans h0 h1)
  refine snd_new hk fun μ w a hops => ?_
  have hv1 := hops l (by simp [ho, Op.operands])
  rw [hl] at hv1
  have e1 : a.eval l = .int kl (m' : Int) := hv1.c_inv
  have hv2 := hops c (by simp [ho, Op.operands])
  rw [hc] at hv2
  have e2 : a.eval c = .int kc (n' : Int) := hv2.c_inv
  have hzr := cellsOfL_rep (μ := μ) hzc
  have hzl : z.cells.size = es := by have := hzr.length; simp at this; omega
  have hrep := replicate_flatten_get hzr n'
  have w1 : IntKind.i64.wrap (m' : Int) = m' := IntWalk.i64_in _ (by omega)
  have w2 : IntKind.i64.wrap (n' : Int) = n' := IntWalk.i64_in _ (by omega)
  have hb : ¬ (281474976710656 < (ie.bytes : Int) * (n' : Int)) := by rw [heb, Int.mul_comm]; omega
  have hn0 : ¬ ((n' : Int) < 0) := by omega
  have hm0 : ¬ ((m' : Int) < 0) := by omega
  have hmn : ¬ (n' < m') := by omega
  refine ⟨.slice (some ⟨w.heap.size, 0, none⟩) m' n', ((Array.range (n' * z.cells.size)).map (z.cells[· % z.cells.size]!)), e, ?_, fun j x hx => by
    obtain ⟨v, hv, hr⟩ := hrep.get j x (by simpa using hx)
    exact ⟨v, by rw [← Array.getElem?_toList]; exact hv, hr⟩, .c ⟨_, some ⟨w.heap.size, 0, none⟩, n', upd_same _ _ _, rfl, by simp; omega, .inr ⟨0, rfl, rfl, ?_, .inr rfl⟩⟩⟩
  · by_cases hz0 : n' * ie.size = 0
    · have e0 : ∀ g : Nat → Value, (Array.range 0).map g = #[] := fun _ => by apply Array.eq_empty_of_size_eq_zero; simp
      have hz0' : n' * z.cells.size = 0 := by rw [hzl, ← hes]; exact hz0
      rw [hz0', e0]
      simp [execOp, ho, e1, e2, Instr.makeSlice, asInt, asIntOf, run_underlying hu, typeInfo, hie, w1, w2, hb, hn0, hm0, hmn, sizeOf, hz0, e0, newRow]
    · have : n' * z.cells.size = n' * ie.size := by rw [hzl, hes]
      rw [this]
      simp [execOp, ho, e1, e2, Instr.makeSlice, asInt, asIntOf, run_underlying hu, typeInfo, hie, w1, w2, hb, hn0, hm0, hmn, sizeOf, hz0, zeroValue, hz, newRow]
  · simp [hzl]

theorem run_append_room_row (w : World) (t tx ty e : TypeId) (i : TypeInfo) (ht : P.underlying t = some (.slice e)) (hi : P.info? e = some i) (g off sLen sCap : Nat) (x : Value) (n : Nat) (news : List Value) (hs : Src P i.size tx x n news w)
    (hroom : sLen + n ≤ sCap) (cur : Array Value) (el : TypeId) (hg : w.heap[g]? = some (.cells cur el (0, 0))) (hfit : off + sLen * i.size + news.length ≤ cur.size) :
    (Builtin.append_ #[t, tx] ty #[.slice (some ⟨g, off, none⟩) sLen sCap, x]).run P w = .ok (.slice (some ⟨g, off, none⟩) (sLen + n) sCap) (w.setRow g (cur.toList.take (off + sLen * i.size) ++ news ++ cur.toList.drop (off + sLen * i.size + news.length)).toArray) := by
  have hst := run_storeCells_at P g (off + sLen * i.size) el news 0 cur w hg (by simpa using hfit) hs.one
  simp only [Nat.add_zero] at hst
  rcases hs.kind with ⟨e', hk⟩ | hk <;> simp [Builtin.append_, run_underlying ht, run_underlying hk, sizeOf, typeInfo, hi, hs.len, hroom, hs.cells, Addr.add_lit, hst]

/-- What is appended, in the world. -/
theorem src_of {μ : LMap} {B : Nat} {G : Heap} {w : World} (hR : Rel B μ G w) {tx : TypeId} {e' : TypeId} (hk : P.underlying tx = some (.slice e')) {es : Nat} {x : AV} {v : Value} (hv : RepV μ x v) {m : Nat} {news : List Cell} {rs : List (Nat × AObj)}
    (hsrc : srcE h es x fun m' news' rs' => m' = m ∧ news' = news ∧ rs' = rs) (hrs : ∀ p ∈ rs, G p.1 = .live p.2) (hh : ∀ p ∈ rs, h.get p.1 = .live p.2) :
    ∃ vs : List Value, Src P es tx v m vs w ∧ RepCs μ news vs := by
  unfold srcE at hsrc
  split at hsrc
  · obtain ⟨rfl, rfl, rfl⟩ := hsrc
    have : v = .slice none 0 0 := hv.c_inv
    subst this
    exact ⟨[], Src.ofNil w hk 0, trivial⟩
  · rename_i k off len es'
    obtain ⟨ob, hob, hle, rfl, rfl, rfl⟩ := hsrc
    obtain ⟨l, p, cap, hl, rfl, hcap, hc⟩ := hv.c_inv
    have hG := hrs (k, ob) (by simp)
    obtain ⟨l', hl', hat⟩ := hR.obj k ob hG
    rw [hl] at hl'; cases hl'
    by_cases h0 : len = 0
    · subst h0
      refine ⟨[], ?_, by simp [RepCs]⟩
      cases p with
      | none => exact Src.ofNil w hk cap
      | some a => exact Src.ofSlice w hk a 0 cap [] (by simp) (by simp) (by simp)
    · rcases hc with ⟨h1, _⟩ | ⟨y, rfl, hr, hfit, hy⟩
      · exact absurd h1 h0
      · rcases hy with hy | rfl
        · exact absurd hy h0
        · simp only [ObjAt, hr, if_true] at hat
          obtain ⟨C, elem, fz, h1, h2, h3, _⟩ := hat
          obtain ⟨hreps, hlen⟩ := reps_of_obj h3 off (len * es) hle
          refine ⟨_, Src.ofSlice w hk _ len cap _ hlen (fun j u hu => ?_) hreps.oneCell, hreps⟩
          simp only [List.getElem?_take, List.getElem?_drop] at hu
          split at hu
          · rw [Addr.add_lit]
            simpa [World.cell?, h1] using hu
          · cases hu
  · exact hsrc.elim

theorem srcE_elim {es : Nat} {x : AV} {F : Nat → List Cell → List (Nat × AObj) → Prop} (hs : srcE h es x F) : ∃ m news rs, F m news rs ∧ (srcE h es x fun m' news' rs' => m' = m ∧ news' = news ∧ rs' = rs) ∧ (∀ p ∈ rs, h.get p.1 = .live p.2) := by
  unfold srcE at hs ⊢
  split at hs
  · exact ⟨_, _, _, hs, ⟨rfl, rfl, rfl⟩, by simp⟩
  · obtain ⟨ob, h1, h2, h3⟩ := hs
    exact ⟨_, _, _, h3, ⟨ob, h1, h2, rfl, rfl, rfl⟩, by simp; exact h1⟩
  · exact hs.elim

theorem below_setRow {B : Nat} {w : World} {b : Nat} (c : Array Value) (hb : B ≤ b) : Below B w (w.setRow b c) :=
  ⟨rfl, rfl, rfl, by simp, fun j hj => setRow_other w _ _ _ (by omega)⟩

theorem snd_append {c : Call} (ho : o.op = .call c) (hc : c.callee = .builtin .append) {t tx : TypeId} {s x : Operand} (hat : c.argTypes = #[t, tx]) (hax : c.args = #[s, x]) (hk : appendE P t tx (ρ s) (ρ x) h K) : Snd P o ρ h K := by
  obtain ⟨ti, es, eb, ez, ti', es', eb', ez', ht, hkd, htx, hkdx, hez, hsrc⟩ := hk
  obtain ⟨_, _, _, _, _, _, _, _, _, _, hkd'⟩ := tyOf_spec ht
  rw [hkd'] at hkd
  obtain ⟨e, ie, z, hu, hie, hes, heb, hz, hzc⟩ := kind_slice hkd
  obtain ⟨_, _, _, _, _, _, _, _, _, _, hkdx'⟩ := tyOf_spec htx
  rw [hkdx'] at hkdx
  obtain ⟨e', _, _, hux, _⟩ := kind_slice hkdx
  obtain ⟨m, news, rs, hK, hsrc', hrs⟩ := srcE_elim hsrc
  have hops' : s ∈ o.op.operands ∧ x ∈ o.op.operands := by simp [ho, Op.operands, Call.operands, hc, hax]
  have hex : ∀ (a : Act) (w : World), (execOp a.eval o).run P w = ((Builtin.append_ #[t, tx] o.type #[a.eval s, a.eval x]).run P w).andThen fun v w' => .ok (.value v) w' := by
    intro a w
    simp [execOp, ho, resolve, hc, hat, hax, invoke, builtin]
  have hzl : ∀ μ : LMap, z.cells.size = es := fun μ => by have := (cellsOfL_rep (μ := μ) hzc).length; simp at this; omega
  -- growing
  have grow : ∀ {B : Nat} {μ : LMap} {G : Heap} {w : World}, Rel B μ G w → G h.nxt = .free → ∀ (base : Option Addr) (sLen sCap : Nat) (olds news : List Value) (ocs ncs : List Cell) (vx : Value),
      (Builtin.firstCells ie.size sLen (.slice base sLen sCap)).run P w.drew = .ok olds.toArray w.drew → RepCs μ ocs olds → olds.length = sLen * es → Src P es tx vx m news w → RepCs μ ncs news → sCap < sLen + m →
      (sLen + m) * eb ≤ 70368744177664 → sLen + m ≤ 70368744177664 →
      ∃ v μ' w', (Builtin.append_ #[t, tx] o.type #[.slice base sLen sCap, vx]).run P w = .ok v w' ∧ μ.le μ' ∧ RepV μ' (.c (.slice h.nxt 0 (sLen + m) es)) v ∧ Rel B μ' (upd G h.nxt (.live ⟨ocs ++ ncs, true⟩)) w' ∧ Below B w w' := by
    intro B μ G w hR hfree base sLen sCap olds news ocs ncs vx hold hro hol hs hrn hg hb1 hb2
    have hgc := grownCap_ge w (sLen + m) sCap e
    have hfit := growslice_fits (need := sLen + m) (old := sCap) (bytes := ie.bytes) hg (by rw [heb]; omega)
    have hrun := run_append_grow_src (P := P) w t tx o.type e ie z hu hie hz base sLen sCap olds hold vx m news (by rw [hes]; exact hs) hg (by omega) hfit
    have hC : ((olds ++ news).toArray ++ Builtin.zeroCells z.cells (grownCap w (sLen + m) sCap e - (sLen + m))).size = grownCap w (sLen + m) sCap e * es := by
      have h1 := hs.newsLen
      simp only [Array.size_append, size_zeroCells, hzl μ]
      simp only [List.size_toArray, List.length_append, hol, h1]
      rw [← Nat.add_mul, ← Nat.add_mul]
      congr 1; omega
    have hR' := hR.drew.alloc hfree ((olds ++ news).toArray ++ Builtin.zeroCells z.cells (grownCap w (sLen + m) sCap e - (sLen + m))) e (ocs ++ ncs) (fun j y hy => by
      obtain ⟨u, hu', hr⟩ := (hro.append hrn).get j y hy
      refine ⟨u, ?_, hr⟩
      have hlt : j < (olds ++ news).length := (List.getElem?_eq_some_iff.1 hu').1
      rw [Array.getElem?_append_left (by simpa using hlt)]
      simpa using hu')
    refine ⟨_, _, _, hrun, LMap.le_upd (hR.free _ hfree), .c ⟨_, some ⟨w.heap.size, 0, none⟩, grownCap w (sLen + m) sCap e, upd_same _ _ _, rfl, hgc, .inr ⟨0, rfl, rfl, Nat.le_of_eq (by simp [hC]), .inr rfl⟩⟩, hR', ?_⟩
    exact ((Below.refl _ _).drew).alloc hR.size _
  -- nothing appended to an empty slice that has no room: a phantom
  have none' : ∀ {B : Nat} {μ : LMap} {G : Heap} {w : World}, Rel B μ G w → G h.nxt = .free → ∀ (base : Option Addr) (vx : Value), Src P es tx vx 0 [] w →
      ∃ v μ' w', (Builtin.append_ #[t, tx] o.type #[.slice base 0 0, vx]).run P w = .ok v w' ∧ μ.le μ' ∧ RepV μ' (.c (.slice h.nxt 0 0 es)) v ∧ Rel B μ' (upd G h.nxt (.live ⟨[], true⟩)) w' ∧ Below B w w' := by
    intro B μ G w hR hfree base vx hs
    refine ⟨_, _, w, run_append_nothing w t tx o.type e ie hu hie base 0 0 (Nat.le_refl _) vx (by rw [hes]; exact hs), LMap.le_upd (hR.free _ hfree), .c ⟨_, base, 0, upd_same _ _ _, rfl, Nat.le_refl _, .inl ⟨rfl, rfl⟩⟩, hR.phantom hfree, Below.refl _ _⟩
  split at hK
  · -- onto nil
    rename_i hs
    obtain ⟨hb1, hb2, hK⟩ := hK
    refine ⟨_, rs, [(h.nxt, .live ⟨news, true⟩)], ?_, hrs, fun p hp => by simp at hp; subst hp; exact .inr h.get_nxt, hK⟩
    intro B μ G w a next Q hR _ hreads hw hops hn
    have hfree : G h.nxt = .free := by
      rcases hw _ (List.mem_singleton.2 rfl) with ⟨ob, hob⟩ | hf
      · exact absurd (hrs _ hob) (by rw [h.get_nxt]; simp)
      · exact hf
    have h1 := hops s hops'.1
    rw [hs] at h1
    have e1 : a.eval s = .slice none 0 0 := h1.c_inv
    obtain ⟨vs, hSrc, hrep⟩ := src_of hR hux (hops x hops'.2) hsrc' hreads hrs
    rcases Nat.eq_zero_or_pos m with hm | hm
    · subst hm
      have hvs : vs = [] := by have := hSrc.newsLen; simpa using this
      subst hvs
      have hnews : news = [] := by
        have := hrep.length; simpa using this
      subst hnews
      obtain ⟨v, μ', w', h2, h3, h4, h5, h6⟩ := none' hR hfree none _ hSrc
      exact wp_value (by rw [hex, e1, h2]; rfl) (hn v μ' w' h3 h4 h5 h6)
    · obtain ⟨v, μ', w', h2, h3, h4, h5, h6⟩ := grow hR hfree none 0 0 [] vs [] news _ (by simp [Builtin.firstCells]) trivial (by simp) hSrc hrep (by omega) (by simpa using hb1) (by simpa using hb2)
      exact wp_value (by rw [hex, e1, h2]; rfl) (hn v μ' w' h3 (by simpa using h4) (by simpa [putsG] using h5) h6)
  · -- onto a slice of one's own
    rename_i k off len es2 hs
    obtain ⟨rfl, hb1, hb2, ob, hob, hown, hle, hK⟩ := hK
    refine ⟨_, (k, ob) :: rs, _, ?_, fun p hp => by
      rcases List.mem_cons.1 hp with rfl | hp
      · exact hob
      · exact hrs p hp, fun p hp => by
      simp at hp
      rcases hp with rfl | rfl
      · exact .inl ⟨ob, by simp⟩
      · exact .inr h.get_nxt, hK⟩
    intro B μ G w a next Q hR _ hreads hw hops hn
    have hG := hreads (k, ob) (by simp)
    simp only at hG
    have hfree : G h.nxt = .free := by
      rcases hw (h.nxt, .live ⟨(ob.cells.drop off).take (len * es2) ++ news, true⟩) (by simp) with ⟨ob2, hob2⟩ | hf
      · have : h.get h.nxt = .live ob2 := by
          rcases List.mem_cons.1 hob2 with hq | hq
          · have e1 : h.nxt = k := congrArg Prod.fst hq
            have e2 : ob2 = ob := congrArg Prod.snd hq
            rw [e1, e2]; exact hob
          · exact hrs _ hq
        rw [h.get_nxt] at this; cases this
      · exact hf
    have hne : h.nxt ≠ k := fun e => by rw [e, hG] at hfree; cases hfree
    have h1 := hops s hops'.1
    rw [hs] at h1
    obtain ⟨l, p, cap, hl, e1, hcap, hcase⟩ := h1.c_inv
    obtain ⟨vs, hSrc, hrep⟩ := src_of hR hux (hops x hops'.2) hsrc' (fun p hp => hreads p (by simp [hp])) hrs
    have hRk : Rel B μ (upd G k .dead) w := hR.kill (by rw [hG]; simp)
    have hfree' : upd G k .dead h.nxt = .free := by rw [upd_ne _ _ hne]; exact hfree
    have hnl := hSrc.newsLen
    rcases hcase with ⟨hl0, hc0⟩ | ⟨y, hp, hr, hfit, hy⟩
    · subst hl0; subst hc0
      rcases Nat.eq_zero_or_pos m with hm | hm
      · subst hm
        have hvs : vs = [] := by simpa using hnl
        subst hvs
        have hnews : news = [] := by have := hrep.length; simpa using this
        subst hnews
        obtain ⟨v, μ', w', h2, h3, h4, h5, h6⟩ := none' hRk hfree' p _ hSrc
        refine wp_value (by rw [hex, e1, h2]; rfl) (hn v μ' w' h3 h4 ?_ h6)
        simpa [putsG] using h5
      · obtain ⟨v, μ', w', h2, h3, h4, h5, h6⟩ := grow hRk hfree' p 0 0 [] vs [] news _ (by cases p <;> simp [Builtin.firstCells, loadCells, loadCellsFrom]) trivial (by simp) hSrc hrep (by omega) hb1 hb2
        refine wp_value (by rw [hex, e1, h2]; rfl) (hn v μ' w' h3 h4 ?_ h6)
        simpa [putsG] using h5
    · subst hp
      obtain ⟨l', hl', hat'⟩ := hR.obj k ob hG
      rw [hl] at hl'; cases hl'
      simp only [ObjAt, hr, hown, if_true] at hat'
      obtain ⟨C, elem, fz, g1, g2, g3, rfl, g5⟩ := hat'
      -- what the slice held
      have hold : ∃ olds : List Value, olds = (C.toList.drop y).take (len * es2) ∧ RepCs μ ((ob.cells.drop off).take (len * es2)) olds ∧ olds.length = len * es2 := by
        rcases hy with h0 | h0
        · subst h0
          exact ⟨[], by simp, by simp [RepCs], by simp⟩
        · subst h0
          obtain ⟨a1, a2⟩ := reps_of_obj g3 off (len * es2) hle
          exact ⟨_, rfl, a1, a2⟩
      obtain ⟨olds, hod, hro, hol⟩ := hold
      by_cases hroom : len + m ≤ cap
      · have hfit2 : y + (len + m) * es2 ≤ C.size := by
          have : (len + m) * es2 ≤ cap * es2 := Nat.mul_le_mul_right _ hroom
          omega
        have hfit3 : y + len * ie.size + vs.length ≤ C.size := by rw [hes, hnl, Nat.add_assoc, ← Nat.add_mul]; exact hfit2
        have hrun := run_append_room_row (P := P) w t tx o.type e ie hu hie l.b y len cap _ m vs (by rw [hes]; exact hSrc) hroom C elem g1 hfit3
        have hRn := hR.rename hG hown hl hr hfree y ((ob.cells.drop off).take (len * es2)) (fun c' elem' fz' hh j u hu' => by
          rw [g1] at hh
          simp only [Option.some.injEq, Go.Obj.cells.injEq] at hh
          obtain ⟨rfl, _, _⟩ := hh
          obtain ⟨v, hv, hrv⟩ := hro.get j u hu'
          refine ⟨v, ?_, hrv⟩
          rw [hod, List.getElem?_take, List.getElem?_drop] at hv
          split at hv
          · simpa using hv
          · cases hv)
        have hnxt : upd (upd G k .dead) h.nxt (.live ⟨(ob.cells.drop off).take (len * es2), true⟩) h.nxt = .live ⟨(ob.cells.drop off).take (len * es2), true⟩ := upd_same _ _ _
        have hle' : μ.le (upd μ h.nxt (some ⟨l.b, y, l.E, true⟩)) := LMap.le_upd (hR.free _ hfree)
        have hRw := hRn.write hnxt rfl (upd_same _ _ _) rfl (C.toList.take (y + len * ie.size) ++ vs ++ C.toList.drop (y + len * ie.size + vs.length)).toArray
          (by simp; omega) ((ob.cells.drop off).take (len * es2) ++ news) (fun j u hu' => by
            simp only
            have hrep2 := (hro.append hrep).mono hle'
            obtain ⟨v, hv, hrv⟩ := hrep2.get j u hu'
            refine ⟨v, ?_, hrv⟩
            have hj : j < (olds ++ vs).length := (List.getElem?_eq_some_iff.1 hv).1
            simp only [List.length_append, hol, hnl] at hj
            simp only [List.getElem?_toArray, List.append_assoc]
            rw [List.getElem?_append] at hv ⊢
            have ht' : (C.toList.take (y + len * ie.size)).length = y + len * es2 := by rw [hes]; simp; rw [hes] at hfit3; omega
            rw [ht']
            split at hv
            · rename_i hj2
              rw [hol] at hj2
              rw [if_pos (by omega), List.getElem?_take, if_pos (by rw [hes]; omega)]
              rw [hod, List.getElem?_take, List.getElem?_drop, if_pos hj2] at hv
              exact hv
            · rename_i hj2
              rw [hol] at hj2
              rw [if_neg (by omega), List.getElem?_append, if_pos (by rw [hnl]; omega)]
              rw [hol] at hv
              rw [show y + j - (y + len * es2) = j - len * es2 from by omega]
              exact hv)
        have hE : upd (upd (upd G k .dead) h.nxt (.live ⟨(ob.cells.drop off).take (len * es2), true⟩)) h.nxt (.live ⟨(ob.cells.drop off).take (len * es2) ++ news, true⟩) = putsG G [(k, .dead), (h.nxt, .live ⟨(ob.cells.drop off).take (len * es2) ++ news, true⟩)] := by
          funext j
          simp only [putsG, List.foldl_cons, List.foldl_nil]
          by_cases ej : j = h.nxt
          · subst ej; simp
          · rw [upd_ne _ _ ej, upd_ne _ _ ej, upd_ne _ _ ej]
        rw [hE] at hRw
        refine wp_value (by rw [hex, e1, hrun]; rfl) (hn _ _ _ hle' ?_ hRw (below_setRow _ g5))
        exact .c ⟨_, some ⟨l.b, y, none⟩, cap, upd_same _ _ _, rfl, hroom, .inr ⟨y, rfl, rfl, hfit, .inr rfl⟩⟩
      · have hfc : (Builtin.firstCells ie.size len (.slice (some ⟨l.b, y, none⟩) len cap)).run P w.drew = .ok olds.toArray w.drew := by
          refine run_firstCells_some (P := P) w.drew ie.size len _ len cap olds (by rw [hes]; exact hol) (fun j u hu' => ?_)
          rw [hod, List.getElem?_take, List.getElem?_drop] at hu'
          split at hu'
          · rw [Addr.add_lit, World.cell?_drew]
            simpa [World.cell?, g1] using hu'
          · cases hu'
        obtain ⟨v, μ', w', h2, h3, h4, h5, h6⟩ := grow hRk hfree' _ len cap olds vs _ news _ hfc hro hol hSrc hrep (by omega) hb1 hb2
        refine wp_value (by rw [hex, e1, h2]; rfl) (hn v μ' w' h3 h4 ?_ h6)
        simpa [putsG] using h5
  · exact hK.elim
end
end Go.Abs



/- Parts of slices; all operations together. -/
namespace Go.Abs
open Go.RowKit (Below)

section
variable {P : Program} {o : Oper} {ρ : Operand → AV} {h : AHeap} {K : Kont}

theorem run_bound {w : World} {k : IntKind} {i : Int} {y : Nat} {code : BoundsCode} (h0 : 0 ≤ i) (h1 : i ≤ y) : (Instr.sliceBound (.int k i) y code).run P w = .ok i.toNat w := by
  simp [Instr.sliceBound, asIntOf, h0, h1]

theorem opt_rep {μ : LMap} {a : Act} {x : Option Operand} {k : IntKind} {i : Int} {d : AV} (hops : ∀ y ∈ x, RepV μ (ρ y) (a.eval y)) (h : (x.map ρ).getD d = .c (.int k i)) : (∃ y, x = some y ∧ a.eval y = .int k i) ∨ (x = none ∧ d = .c (.int k i)) := by
  cases x with
  | none => exact .inr ⟨rfl, h⟩
  | some y =>
    refine .inl ⟨y, rfl, ?_⟩
    have := hops y rfl
    simp only [Option.map_some, Option.getD_some] at h
    rw [h] at this
    exact this.c_inv

theorem snd_slice {t : TypeId} {x : Operand} {lo hi mx : Option Operand} (ho : o.op = .slice t x lo hi mx) (hk : sliceE P t (ρ x) (lo.map ρ) (hi.map ρ) (mx.map ρ) h K) : Snd P o ρ h K := by
  obtain ⟨ti, ht, hk⟩ := hk
  obtain ⟨_, _, _, _, _, _, _, _, _, _, hkd'⟩ := tyOf_spec ht
  have hox : x ∈ o.op.operands := by simp [ho, Op.operands]
  have holo : ∀ y ∈ lo, y ∈ o.op.operands := by intro y hy; cases hy; simp [ho, Op.operands]
  have hohi : ∀ y ∈ hi, y ∈ o.op.operands := by intro y hy; cases hy; simp [ho, Op.operands]
  have homx : ∀ y ∈ mx, y ∈ o.op.operands := by intro y hy; cases hy; simp [ho, Op.operands]
  have hex : ∀ (a : Act) (w : World) (e : TypeId), P.underlying t = some (.slice e) → (execOp a.eval o).run P w = ((Instr.slice t (a.eval x) (lo.map a.eval) (hi.map a.eval) (mx.map a.eval)).run P w).andThen fun v w' => .ok (.value v) w' := by
    intro a w e hu
    simp [execOp, ho, Instr.sliceAt, run_underlying hu]
  split at hk
  · -- a part of a slice
    rename_i es eb ez k off len es2 hkd hx hmx
    obtain ⟨rfl, kl, kh, l, r, hl, hr, h0, h1, h2, hK⟩ := hk
    have hmx' : mx = none := by cases mx <;> simp_all
    subst hmx'
    rw [hkd'] at hkd
    obtain ⟨e, ie, z, hu, hie, hes, _⟩ := kind_slice hkd
    refine Snd.pure hK fun μ w a hops => ?_
    have hv := hops x hox
    rw [hx] at hv
    obtain ⟨lc, p, cap, hlc, he, hcap, hcase⟩ := hv.c_inv
    obtain ⟨l', rfl⟩ := Int.eq_ofNat_of_zero_le h0
    obtain ⟨r', rfl⟩ := Int.eq_ofNat_of_zero_le (Int.le_trans h0 h1)
    have hlo : ∀ (y : Nat) (code : BoundsCode), l' ≤ y → ((match lo.map a.eval with | some v => Instr.sliceBound v y code | none => pure 0) : Sem Nat).run P w = .ok l' w := by
      intro y code hy
      rcases opt_rep (fun y hy => hops y (holo y hy)) hl with ⟨q, rfl, hq⟩ | ⟨rfl, hq⟩
      · simp only [Option.map_some, hq]
        have := run_bound (P := P) (w := w) (k := kl) (i := (l' : Int)) (y := y) (code := code) (by omega) (by omega)
        simpa using this
      · simp only [AV.c.injEq, Cell.int.injEq] at hq
        have : l' = 0 := by omega
        subst this; rfl
    have hhi : ((match hi.map a.eval with | some v => Instr.sliceBound v cap .sliceAcap | none => pure len) : Sem Nat).run P w = .ok r' w := by
      rcases opt_rep (fun y hy => hops y (hohi y hy)) hr with ⟨q, rfl, hq⟩ | ⟨rfl, hq⟩
      · simp only [Option.map_some, hq]
        have := run_bound (P := P) (w := w) (k := kh) (i := (r' : Int)) (y := cap) (code := .sliceAcap) (by omega) (by omega)
        simpa using this
      · simp only [AV.c.injEq, Cell.int.injEq] at hq
        have : len = r' := by omega
        subst this; rfl
    have hb : (Instr.sliceBounds true len cap (lo.map a.eval) (hi.map a.eval) none).run P w = .ok (l', r', cap) w := by
      have h3 := hlo r' .sliceB (by omega)
      cases hhi' : hi.map a.eval with
      | none =>
        rw [hhi'] at hhi
        simp only [Sem.run_pure] at hhi
        have hlr : len = r' := by injection hhi
        subst hlr
        cases hlo2 : lo.map a.eval with
        | none =>
          rw [hlo2] at h3
          simp only [Sem.run_pure] at h3
          have : 0 = l' := by injection h3
          subst this
          simp [Instr.sliceBounds]
        | some v2 =>
          rw [hlo2] at h3
          simp only at h3
          simp [Instr.sliceBounds, h3]
      | some v =>
        rw [hhi'] at hhi
        simp only at hhi
        cases hlo2 : lo.map a.eval with
        | none =>
          rw [hlo2] at h3
          simp only [Sem.run_pure] at h3
          have : 0 = l' := by injection h3
          subst this
          simp [Instr.sliceBounds, hhi]
        | some v2 =>
          rw [hlo2] at h3
          simp only at h3
          simp [Instr.sliceBounds, hhi, h3]
    have hsl : (execOp a.eval o).run P w = .ok (.value (.slice (if cap = l' then p else p.map (·.add (l' * es2))) (r' - l') (cap - l'))) w := by
      rw [hex a w e hu, he]
      simp [Instr.slice, run_underlying hu, hb, sizeOf, typeInfo, hie, hes]
    have ht : ((r' : Int) - (l' : Int)).toNat = r' - l' := by omega
    refine ⟨_, hsl, .c ⟨lc, if cap = l' then p else p.map (·.add (l' * es2)), cap - l', hlc, by rw [ht], by rw [ht]; omega, ?_⟩⟩
    rw [ht]
    rcases hcase with ⟨hl0, hc0⟩ | ⟨y, rfl, hreal, hfit, hy⟩
    · exact .inl ⟨by omega, by omega⟩
    · by_cases hcl : cap = l'
      · subst hcl
        exact .inr ⟨y, by simp, hreal, by simp; omega, .inl (by omega)⟩
      · refine .inr ⟨y + l' * es2, by simp [hcl, Addr.add_lit], hreal, ?_, ?_⟩
        · have : l' * es2 + (cap - l') * es2 = cap * es2 := by rw [← Nat.add_mul]; congr 1; omega
          omega
        · rcases hy with h4 | h4
          · left; omega
          · right; simp; omega
  · -- of nil
    rename_i es eb ez hkd hx hmx
    obtain ⟨kl, kh, hl, hr, hK⟩ := hk
    have hmx' : mx = none := by cases mx <;> simp_all
    subst hmx'
    rw [hkd'] at hkd
    obtain ⟨e, ie, z, hu, hie, hes, _⟩ := kind_slice hkd
    refine Snd.pure hK fun μ w a hops => ?_
    have hv := hops x hox
    rw [hx] at hv
    have he : a.eval x = .slice none 0 0 := hv.c_inv
    refine ⟨.slice none 0 0, ?_, .c rfl⟩
    rw [hex a w e hu, he]
    rcases opt_rep (fun y hy => hops y (holo y hy)) hl with ⟨q, rfl, hq⟩ | ⟨rfl, hq⟩ <;> rcases opt_rep (fun y hy => hops y (hohi y hy)) hr with ⟨q', rfl, hq'⟩ | ⟨rfl, hq'⟩ <;>
      simp [Instr.slice, run_underlying hu, Instr.sliceBounds, Instr.sliceBound, asIntOf, sizeOf, typeInfo, *]
  · -- s[:0:0]
    rename_i es eb ez k off len es2 kk hkd hx hmx
    obtain ⟨rfl, hl, hr, hK⟩ := hk
    rw [hkd'] at hkd
    obtain ⟨e, ie, z, hu, hie, hes, _⟩ := kind_slice hkd
    refine ⟨_, [], [(h.nxt, .live ⟨[], true⟩)], ?_, by simp, fun p hp => by simp at hp; subst hp; exact .inr h.get_nxt, hK⟩
    intro B μ G w a next Q hR _ _ hw hops hn
    have hfree : G h.nxt = .free := by
      rcases hw _ (List.mem_singleton.2 rfl) with ⟨ob, hob⟩ | hf
      · cases hob
      · exact hf
    have hv := hops x hox
    rw [hx] at hv
    obtain ⟨lc, p, cap, hlc, he, hcap, hcase⟩ := hv.c_inv
    have hm : ∃ y, mx = some y ∧ a.eval y = .int kk 0 := by
      cases mx with
      | none => simp at hmx
      | some y =>
        simp only [Option.map_some, Option.some.injEq] at hmx
        have := hops y (homx y rfl)
        rw [hmx] at this
        exact ⟨y, rfl, this.c_inv⟩
    obtain ⟨ym, rfl, hym⟩ := hm
    have hh : ∃ y, hi = some y ∧ a.eval y = .int .i64 0 := by
      cases hi with
      | none => simp at hr
      | some y =>
        simp only [Option.map_some, Option.some.injEq] at hr
        have := hops y (hohi y rfl)
        rw [hr] at this
        exact ⟨y, rfl, this.c_inv⟩
    obtain ⟨yh, rfl, hyh⟩ := hh
    have hrun : (execOp a.eval o).run P w = .ok (.value (.slice p 0 0)) w := by
      rw [hex a w e hu, he]
      rcases opt_rep (fun y hy => hops y (holo y hy)) hl with ⟨q, rfl, hq⟩ | ⟨rfl, hq⟩ <;>
        simp [Instr.slice, run_underlying hu, Instr.sliceBounds, Instr.sliceBound, asIntOf, sizeOf, typeInfo, *]
    refine wp_value hrun (hn _ _ w (LMap.le_upd (hR.free _ hfree)) (.c ⟨_, p, 0, upd_same _ _ _, rfl, Nat.le_refl _, .inl ⟨rfl, rfl⟩⟩) (hR.phantom hfree) (Below.refl _ _))
  · -- nil[:0:0]
    rename_i es eb ez kk hkd hx hmx
    obtain ⟨hl, hr, hK⟩ := hk
    rw [hkd'] at hkd
    obtain ⟨e, ie, z, hu, hie, hes, _⟩ := kind_slice hkd
    refine Snd.pure hK fun μ w a hops => ?_
    have hv := hops x hox
    rw [hx] at hv
    have he : a.eval x = .slice none 0 0 := hv.c_inv
    have hm : ∃ y, mx = some y ∧ a.eval y = .int kk 0 := by
      cases mx with
      | none => simp at hmx
      | some y =>
        simp only [Option.map_some, Option.some.injEq] at hmx
        have := hops y (homx y rfl)
        rw [hmx] at this
        exact ⟨y, rfl, this.c_inv⟩
    obtain ⟨ym, rfl, hym⟩ := hm
    have hh : ∃ y, hi = some y ∧ a.eval y = .int .i64 0 := by
      cases hi with
      | none => simp at hr
      | some y =>
        simp only [Option.map_some, Option.some.injEq] at hr
        have := hops y (hohi y rfl)
        rw [hr] at this
        exact ⟨y, rfl, this.c_inv⟩
    obtain ⟨yh, rfl, hyh⟩ := hh
    refine ⟨.slice none 0 0, ?_, .c rfl⟩
    rw [hex a w e hu, he]
    rcases opt_rep (fun y hy => hops y (holo y hy)) hl with ⟨q, rfl, hq⟩ | ⟨rfl, hq⟩ <;>
      simp [Instr.slice, run_underlying hu, Instr.sliceBounds, Instr.sliceBound, asIntOf, sizeOf, typeInfo, *]
  · -- of an array
    rename_i n es ea k off hkd hx hmx
    obtain ⟨hl, hr, ob, hob, hle, hpos, hK⟩ := hk
    have hmx' : mx = none := by cases mx <;> simp_all
    have hlo' : lo = none := by cases lo <;> simp_all
    have hhi' : hi = none := by cases hi <;> simp_all
    subst hmx' hlo' hhi'
    rw [hkd'] at hkd
    obtain ⟨e, ie, _, hu, hie, hes, _⟩ := kind_array hkd
    refine ⟨_, [(k, ob)], [], ?_, fun p hp => by simp at hp; subst hp; exact hob, by simp, hK⟩
    intro B μ G w a next Q hR _ hreads _ hops hn
    have hG := hreads (k, ob) (by simp)
    have hv := hops x hox
    rw [hx] at hv
    obtain ⟨l, hl2, he⟩ := hv.c_inv
    obtain ⟨l', hl', hat⟩ := hR.obj k ob hG
    simp only at hl2
    rw [hl2] at hl'; cases hl'
    have hreal : l.real = true := by
      cases hr' : l.real with
      | true => rfl
      | false =>
        simp only [ObjAt, hr', Bool.false_eq_true, if_false] at hat
        rw [hat] at hle; simp at hle; omega
    simp only [ObjAt, hreal, if_true] at hat
    obtain ⟨C, elem, fz, h1, h2, h3, _⟩ := hat
    have hfit : l.base + off + n * es ≤ l.E := by
      obtain ⟨v, hv2, _⟩ := h3 (off + n * es - 1) ob.cells[off + n * es - 1] (List.getElem?_eq_getElem (by omega))
      have := (Array.getElem?_eq_some_iff.1 hv2).1
      omega
    have hrun : (execOp a.eval o).run P w = .ok (.value (.slice (some ⟨l.b, l.base + off, none⟩) n n)) w := by
      simp [execOp, ho, Instr.sliceAt, run_underlying hu, he, Instr.sureAddr, Instr.sliceBounds, sizeOf, typeInfo, hie, Addr.add]
    exact wp_value hrun (hn _ μ w (LMap.le_refl _) (.c ⟨l, _, n, hl2, rfl, Nat.le_refl _, .inr ⟨_, rfl, hreal, hfit, .inr rfl⟩⟩) hR (Below.refl _ _))
  · exact hk.elim

theorem snd_field {s : TypeId} {x : Operand} {f : Nat} (ho : o.op = .field s x f) (hpl : fieldPlain P s f = true) {ti : TyI} (ht : tyOf P s = some ti) {fs : List (Nat × Nat)} {off' sz : Nat} (hkd : ti.kind = .struct fs) (hf : fs[f]? = some (off', sz)) {cs : List Cell} {c : Cell} (hx : ρ x = .agg cs)
    (hc : cs[off']? = some c) (hk : K (.c c) [] []) : Snd P o ρ h K := by
  obtain ⟨_, _, _, _, _, _, _, _, _, _, hkd'⟩ := tyOf_spec ht
  rw [hkd'] at hkd
  obtain ⟨fields, hu, hm⟩ := kind_struct hkd
  unfold fieldPlain at hpl
  rw [hu] at hpl
  simp only at hpl
  cases hfd : fields[f]? with
  | none => rw [hfd] at hpl; simp at hpl
  | some fd =>
    rw [hfd] at hpl
    simp only [Bool.and_eq_true, Bool.not_eq_true'] at hpl
    have hoff : fd.offset = off' := by
      have key : ∀ (l : List Field) (fs : List (Nat × Nat)) (j : Nat), l.mapM (fun f => (P.info? f.type).map fun i => (f.offset, i.size)) = some fs → fs[j]? = some (off', sz) → l[j]? = some fd → fd.offset = off' := by
        intro l
        induction l with
        | nil => intro fs j h h' h2; simp at h2
        | cons g l ih =>
          intro fs j h h' h2
          simp only [List.mapM_cons, Option.bind_eq_bind, Option.pure_def] at h
          cases hi : P.info? g.type with
          | none => simp [hi] at h
          | some i =>
            cases hr : l.mapM (fun f => (P.info? f.type).map fun i => (f.offset, i.size)) with
            | none => simp [hi, hr] at h
            | some rest =>
              simp [hi, hr] at h
              subst h
              cases j with
              | zero => simp at h' h2; rw [← h2]; exact h'.1
              | succ j => exact ih rest j hr (by simpa using h') (by simpa using h2)
      exact key fields.toList fs f hm hf (by simpa using hfd)
    obtain ⟨d, hd⟩ := Option.isSome_iff_exists.1 hpl.1
    refine Snd.pure hk fun μ w a hops => ?_
    have hv := hops x (by simp [ho, Op.operands])
    rw [hx] at hv
    obtain ⟨vs, he, hr⟩ := hv.agg_inv
    obtain ⟨v, hv3, hrep⟩ := hr.get _ _ hc
    have hisAgg : (isAgg fd.type).run P w = .ok false w := by
      rw [← hpl.2]
      unfold isAggT
      simp only [isAgg, Sem.run_bind, run_underlying hd, Result.andThen_ok, hd]
      cases d <;> rfl
    have hvv : vs.toArray[off']? = some v := by simpa using hv3
    refine ⟨v, ?_, .c hrep⟩
    simp [execOp, ho, he, Instr.field, run_underlying hu, hfd, part, hisAgg, hoff, asAgg, hv3]

theorem snd_clear {c : Call} (ho : o.op = .call c) (hcal : c.callee = .builtin .clear) {t : TypeId} {x : Operand} (hat : c.argTypes = #[t]) (hax : c.args = #[x]) {ti : TyI} (ht : tyOf P t = some ti) {es eb : Nat} {ez : List Cell} (hkd : ti.kind = .slice es eb ez) (hez : ez.length = es) {k off len : Nat} (hx : ρ x = .c (.slice k off len es)) {ob : AObj} (hk : h.get k = .live ob) (hown : ob.own = true)
    (hle : off + len * es ≤ ob.cells.length) (hK : K (.tup []) [(k, ob)] [(k, .live ⟨splice ob.cells off (List.replicate len ez).flatten, true⟩)]) : Snd P o ρ h K := by
  obtain ⟨_, _, _, _, _, _, _, _, _, _, hkd'⟩ := tyOf_spec ht
  rw [hkd'] at hkd
  obtain ⟨e, ie, z, hu, hie, hes, heb, hz, hzc⟩ := kind_slice hkd
  refine ⟨.tup [], [(k, ob)], [(k, .live ⟨splice ob.cells off (List.replicate len ez).flatten, true⟩)], ?_, fun p hp => by simp at hp; subst hp; exact hk, fun p hp => by simp at hp; subst hp; exact .inl ⟨ob, by simp⟩, hK⟩
  intro B μ G w a next Q hR _ hreads _ hops hn
  have hG := hreads (k, ob) (by simp)
  have hv := hops x (by simp [ho, Op.operands, Call.operands, hcal, hax])
  rw [hx] at hv
  obtain ⟨l, pp, cap, hl2, he, hcap, hpos⟩ := hv.c_inv
  obtain ⟨l', hl', hob⟩ := hR.obj k ob hG
  rw [hl2] at hl'; cases hl'
  have hzr := cellsOfL_rep (μ := μ) hzc
  have hzl : z.cells.size = es := by have := hzr.length; simp at this; omega
  have hrep := replicate_flatten_get hzr len
  have hlen := hrep.length
  have hfl : (List.replicate len ez).flatten.length = len * es := by simp [hez]
  have same : (List.replicate len ez).flatten = [] → putsG G [(k, .live ⟨splice ob.cells off (List.replicate len ez).flatten, true⟩)] = G := by
    intro e0
    funext j
    show upd G k _ j = G j
    by_cases ej : j = k
    · subst ej
      rw [upd_same, hG, e0]
      simp [splice]
      cases ob; simp_all
    · rw [upd_ne _ _ ej]
  have tup0 : RepV μ (.tup []) (.tuple #[]) := .tup (vs := []) rfl (by simp)
  by_cases h0 : len = 0
  · subst h0
    have hrun : (execOp a.eval o).run P w = .ok (.value (.tuple #[])) w := by
      cases pp <;> simp [execOp, ho, resolve, hcal, hax, hat, invoke, builtin, he, Builtin.clear_, run_underlying hu]
    refine wp_value hrun (hn _ μ w (LMap.le_refl _) tup0 ?_ (Below.refl _ _))
    rw [same (by simp)]; exact hR
  · rcases hpos with ⟨h1, _⟩ | ⟨xx, rfl, hreal, hfit, hxx⟩
    · exact absurd h1 h0
    · obtain rfl : xx = l.base + off := hxx.resolve_left h0
      simp only [ObjAt, hreal, hown, if_true] at hob
      obtain ⟨C, elem, fz, h1, h2, h3, rfl, h5⟩ := hob
      have hex : (execOp a.eval o).run P w = ((storeCells ⟨l.b, l.base + off, none⟩ ((Array.range (len * z.cells.size)).map (z.cells[· % z.cells.size]!)).toList).run P w).andThen fun _ w' => .ok (.value (.tuple #[])) w' := by
        simp [execOp, ho, resolve, hcal, hax, hat, invoke, builtin, he, Builtin.clear_, run_underlying hu, zeroValue, typeInfo, hie, hz, Builtin.zeroCells, h0]
        generalize Sem.run P (storeCells _ _) w = r
        cases r <;> rfl
      by_cases hes0 : es = 0
      · have e1 : ((Array.range (len * z.cells.size)).map (z.cells[· % z.cells.size]!)).toList = [] := by
          rw [hzl, hes0]; simp
        rw [e1] at hex
        refine wp_value (w' := w) (v := .tuple #[]) (by rw [hex]; simp [storeCells]) (hn _ μ w (LMap.le_refl _) tup0 ?_ (Below.refl _ _))
        rw [same (by apply List.length_eq_zero_iff.1; rw [hfl, hes0]; simp)]; exact hR
      · have hmul : 0 < len * es := Nat.mul_pos (by omega) (by omega)
        have hC : l.base + off + len * es ≤ C.size := by
          have : off + len * es - 1 < ob.cells.length := by omega
          obtain ⟨v, hv, _⟩ := h3 (off + len * es - 1) ob.cells[off + len * es - 1] (List.getElem?_eq_getElem this)
          have := (Array.getElem?_eq_some_iff.1 hv).1
          omega
        have hst := run_storeCells_at P l.b (l.base + off) elem ((Array.range (len * z.cells.size)).map (z.cells[· % z.cells.size]!)).toList 0 C w h1 (by rw [← hlen, hfl]; simpa using hC) hrep.oneCell
        refine wp_value (w' := _) (v := .tuple #[]) (by rw [hex]; simp only [hst, Result.andThen_ok]; rfl) (hn _ μ _ (LMap.le_refl _) tup0 ?_ ?_)
        · refine hR.write hG hown hl2 hreal _ ?_ _ ?_
          · simp [← h2]; simp [hzl]; omega
          · have := reps_splice h3 hrep (by rw [hfl]; exact hle) (by rw [hfl]; exact hC)
            simpa using this
        · refine ⟨rfl, rfl, rfl, by simp, fun j hj => setRow_other w _ _ _ (by omega)⟩

/-- **Every operation.** -/
theorem opE_sound (hk : opE P o.op ρ h K) : Snd P o ρ h K := by
  unfold opE at hk
  split at hk
  case h_1 x ho => exact snd_move (.inl ho) hk
  case h_2 x ho => exact snd_move (.inr ho) hk
  case h_3 c a b ho => obtain ⟨t, h1, h2, h3⟩ := hk; exact snd_pick ho h1 h2 h3
  case h_4 e ho => obtain ⟨ti, h1, h2⟩ := hk; exact snd_alloc ho h1 h2
  case h_5 t x ho => obtain ⟨cs, h1, h2⟩ := hk; exact snd_box ho h1 h2
  case h_6 t parts ho => obtain ⟨ti, cs, h1, h2, h3, h4⟩ := hk; exact snd_build ho h1 h2 h3 h4
  case h_7 t len parts ho => obtain ⟨ti, es, eb, ez, cs, h1, h2, h3, h4, h5, h6⟩ := hk; exact snd_buildSlice ho h1 h2 h3 h4 h5 h6
  case h_8 t x ho =>
    obtain ⟨ti, k, off, ob, h1, h2, h3, h4⟩ := hk
    cases hA : ti.agg with
    | true => rw [hA] at h4; simp only [if_true] at h4; exact snd_load (val := .agg ((ob.cells.drop off).take ti.size)) ho h1 h2 h3 (by rw [hA]; exact ⟨h4.1, rfl⟩) h4.2
    | false => rw [hA] at h4; simp only [Bool.false_eq_true, if_false] at h4; obtain ⟨c, h5, h6⟩ := h4; exact snd_load (val := .c c) ho h1 h2 h3 (by rw [hA]; exact ⟨c, h5, rfl⟩) h6
  case h_9 t a x ho => obtain ⟨ti, k, off, ob, cs, h1, h2, h3, h4, h5, h6, h7, h8⟩ := hk; exact snd_store ho h1 h2 h3 h4 h5 h6 h7 h8
  case h_10 op t x y t' ho => exact snd_binE ho hk
  case h_11 t x ho => obtain ⟨b, h1, h2⟩ := hk; exact snd_unNot ho h1 h2
  case h_12 t x ho => obtain ⟨k, n, h1, h2⟩ := hk; exact snd_unNeg ho h1 h2
  case h_13 s t x ho => obtain ⟨ti, ti', k, k', n, h1, h2, h3, h4, h5⟩ := hk; exact snd_convert ho h1 h2 h3 h4 h5
  case h_14 f first captured ho => obtain ⟨h1, ps, h2, h3⟩ := hk; exact snd_makeFunc ho h1 h2 h3
  case h_15 t l c ho => obtain ⟨ti, es, eb, ez, kl, kc, m, n, h1, h2, h3, h4, h5, h6, h7, h8, h9, h10⟩ := hk; exact snd_makeSlice ho h1 h2 h3 h4 h5 h6 h7 h8 h9 h10
  case h_16 t x lo hi mx ho => exact snd_slice ho hk
  case h_17 s x f ho => obtain ⟨ti, fs, off', sz, k, off, h1, h2, h3, h4, h5, h6⟩ := hk; exact snd_fieldAddr ho h1 h2 h3 h4 h5 h6
  case h_18 t x ix ho =>
    obtain ⟨ti, ki, i, h1, h2, h3⟩ := hk
    split at h3
    · rename_i n es ea k off hkd hx; exact snd_indexArr ho h1 hkd hx h2 h3.1 h3.2.1 h3.2.2
    · rename_i es eb ez k off len es2 hkd hx; obtain ⟨rfl, h3⟩ := h3; exact snd_indexSl ho h1 hkd hx h2 h3.1 h3.2.1 h3.2.2
    · exact h3.elim
  case h_19 t x ix ho =>
    obtain ⟨ti, ki, i, n, es, ea, cs, h1, h2, h3, h4, h5, h6, h7⟩ := hk
    cases hA : ea with
    | true => rw [hA] at h7; simp only [if_true] at h7; exact snd_index (val := .agg ((cs.drop (i.toNat * es)).take es)) ho h1 h2 h3 h4 h5 h6 (by rw [hA]; exact ⟨h7.1, rfl⟩) h7.2
    | false => rw [hA] at h7; simp only [Bool.false_eq_true, if_false] at h7; obtain ⟨c, h8, h9⟩ := h7; exact snd_index (val := .c c) ho h1 h2 h3 h4 h5 h6 (by rw [hA]; exact ⟨c, h8, rfl⟩) h9
  case h_20 x i ho => obtain ⟨vs, v, h1, h2, h3⟩ := hk; exact snd_extract ho h1 h2 h3
  case h_21 s x f ho => obtain ⟨h0, ti, fs, off', sz, cs, c, h1, h2, h3, h4, h5, h6⟩ := hk; exact snd_field ho h0 h1 h2 h3 h4 h5 h6
  case h_22 c ho =>
    split at hk
    · rename_i f hc; obtain ⟨g, caps, h1, h2⟩ := hk; exact snd_call ho hc h1 h2
    · rename_i hc; obtain ⟨t, x, ti, h1, h2, h3, h4⟩ := hk; exact snd_len ho hc h1 h2 h3 h4
    · rename_i hc; obtain ⟨t, tx, s, x, h1, h2, h3⟩ := hk; exact snd_append ho hc h1 h2 h3
    · rename_i hc; rcases hk with ⟨x, y, k, m, n, h1, h2, h3, h4⟩ | ⟨x, y, z, k, m, n, r, h1, h2, h3, h4, h5⟩; exact snd_max ho hc h1 h2 h3 h4; exact snd_max3 ho hc h1 h2 h3 h4 h5
    · rename_i hc; obtain ⟨x, y, k, m, n, h1, h2, h3, h4⟩ := hk; exact snd_min ho hc h1 h2 h3 h4
    · rename_i hc; obtain ⟨t, x, ti, es, eb, ez, k, off, len, ob, h1, h2, h3, h4, h5, h6, h7, h8, h9, h10⟩ := hk; exact snd_clear ho hc h1 h2 h3 h4 h5 h6 h7 h8 h9 h10
    · exact hk.elim
  case h_23 x ho => obtain ⟨k, off, h1, h2⟩ := hk; exact snd_nilCheck ho h1 h2
  case h_24 => exact hk.elim
end
end Go.Abs



/- A region of operations: in the order of the text, and in whatever order its edges allow. -/
namespace Go.Abs
open Go.RowKit (Below)

structure St where
  val : AV
  rs : List (Nat × AObj)
  ws : List (Nat × Slot)

def dstOf (ops : Array Oper) (j : Nat) : Option Tmp := (ops[j]?).bind (·.dst)
def TS (ops : Array Oper) (st : Nat → St) (T0 : List AV) (L : List Nat) : List AV := L.foldl (fun T i => setT T (dstOf ops i) (st i).val) T0
def GS (st : Nat → St) (G0 : Heap) (L : List Nat) : Heap := L.foldl (fun G i => putsG G (st i).ws) G0

inductive OkAt (P : Program) (ops : Array Oper) (o : Oper) (T : List AV) (G : Heap) (s : St) : Prop
  | run : (∀ j want, o.guard = some (j, want) → ∃ d, dstOf ops j = some d ∧ rd T d = .c (.bool want)) → OpS P o (ev T) s.val s.rs s.ws → (∀ p ∈ s.rs, G p.1 = .live p.2) →
      (∀ p ∈ s.ws, (∃ ob, (p.1, ob) ∈ s.rs) ∨ G p.1 = .free) → OkAt P ops o T G s
  | skip : ∀ j want d, o.guard = some (j, want) → dstOf ops j = some d → (rd T d = .c (.bool (!want)) ∨ rd T d = .tup []) → s.val = .tup [] → s.rs = [] → s.ws = [] → OkAt P ops o T G s

section
variable {P : Program} {ops : Array Oper} {Q : Exit → Act → World → Prop}

theorem yielded_of {μ : LMap} {T : List AV} {a : Act} (hT : RepT μ T a) {j d : Nat} {b : Bool} (hd : dstOf ops j = some d) (h : rd T d = .c (.bool b)) : yielded ops a.tmps j = some b := by
  have hlt : T[d]? = some (.c (.bool b)) := by
    rw [rd_eq, List.getD_eq_getElem?_getD] at h
    cases ht : T[d]? with
    | none => rw [ht] at h; simp at h
    | some y => rw [ht] at h; simpa using h
  obtain ⟨v, hv, hr⟩ := hT.get d _ hlt
  have : v = .bool b := hr.c_inv
  subst this
  unfold yielded
  unfold dstOf at hd
  rw [hd]
  simp [hv]

theorem tup0_inv {μ : LMap} {v : Value} (h : RepV μ (.tup []) v) : v = undef := by
  cases h with
  | @tup as_ vs hl _ =>
    cases vs with
    | nil => rfl
    | cons _ _ => simp at hl
theorem yielded_undef {μ : LMap} {T : List AV} {a : Act} (hT : RepT μ T a) {j d : Nat} (hd : dstOf ops j = some d) (h : rd T d = .tup []) : yielded ops a.tmps j = none := by
  have hlt : T[d]? = some (.tup []) := by
    rw [rd_eq, List.getD_eq_getElem?_getD] at h
    cases ht : T[d]? with
    | none => rw [ht] at h; simp at h
    | some y => rw [ht] at h; simpa using h
  obtain ⟨v, hv, hr⟩ := hT.get d _ hlt
  have := tup0_inv hr
  subst this
  unfold yielded
  unfold dstOf at hd
  rw [hd]
  simp [hv, undef]

theorem okAt_step {o : Oper} {T T' : List AV} {G G' : Heap} {s : St} (hok : OkAt P ops o T G s) {i : Nat} (hi : ops[i]? = some o) (hagree : ∀ t ∈ o.looksAt ops, rd T' t = rd T t)
    (hagreeG : ∀ k, (k ∈ s.rs.map (·.1) ∨ k ∈ s.ws.map (·.1)) → G' k = G k) {μ : LMap} {a : Act} {w : World} {B : Nat} (hT : RepT μ T' a) (hR : Rel B μ G' w) (hfin : ∃ M, ∀ k, M ≤ k → G' k = .free) {K : Act → World → Prop}
    (hK : ∀ v μ' w', μ.le μ' → RepV μ' s.val v → Rel B μ' (putsG G' s.ws) w' → Below B w w' → K (a.put o.dst v) w') : wpOp P ops Q i K a w := by
  unfold wpOp
  rw [hi]
  simp only
  have looks : ∀ j want d, o.guard = some (j, want) → dstOf ops j = some d → rd T' d = rd T d := by
    intro j want d hg hd
    refine hagree d ?_
    unfold Oper.looksAt
    unfold dstOf at hd
    rw [hg]
    simp only [hd]
    exact List.mem_append_right _ (by simp)
  cases hok with
  | run hg hs hr hw =>
    have hwanted : Region.wanted o (yielded ops a.tmps) = true := by
      unfold Region.wanted
      cases hgd : o.guard with
      | none => rfl
      | some p =>
        obtain ⟨j, want⟩ := p
        obtain ⟨d, hd, hrd⟩ := hg j want hgd
        simp only
        rw [yielded_of hT hd (by rw [looks j want d hgd hd]; exact hrd)]
        simp
    rw [hwanted, if_pos rfl]
    left
    refine hs B μ G' w a K Q hR hfin (fun p hp => ?_) (fun p hp => ?_) (fun x hx => ?_) (fun v μ' w' h1 h2 h3 h4 => hK v μ' w' h1 h2 h3 h4)
    · rw [hagreeG p.1 (.inl (List.mem_map_of_mem hp))]; exact hr p hp
    · rcases hw p hp with h | h
      · exact .inl h
      · right; rw [hagreeG p.1 (.inr (List.mem_map_of_mem hp))]; exact h
    · have := hT.ev x
      cases x with
      | tmp t =>
        have ht : t ∈ o.looksAt ops := by
          unfold Oper.looksAt
          exact List.mem_append_left _ (List.mem_filterMap.2 ⟨.tmp t, by simpa using hx, rfl⟩)
        simp only [ev] at this ⊢
        rw [← hagree t ht]; exact this
      | const v => exact this
      | global g => exact this
      | func f => exact this
  | skip j want d hg hd hrd hv hr hw =>
    have hwanted : Region.wanted o (yielded ops a.tmps) = false := by
      unfold Region.wanted
      rw [hg]
      simp only
      rcases hrd with hrd | hrd
      · rw [yielded_of hT hd (by rw [looks j want d hg hd]; exact hrd)]
        cases want <;> rfl
      · rw [yielded_undef hT hd (by rw [looks j want d hg hd]; exact hrd)]
        rfl
    rw [hwanted, if_neg (by simp)]
    refine hK undef μ w (LMap.le_refl _) (by rw [hv]; exact RepV.tup (as_ := []) (vs := []) rfl (by simp)) ?_ (Below.refl _ _)
    rw [hw]; exact hR

theorem fin_putsG : ∀ (ws : List (Nat × Slot)) {G : Heap}, (∃ M, ∀ k, M ≤ k → G k = .free) → ∃ M, ∀ k, M ≤ k → putsG G ws k = .free
  | [], _, h => h
  | (k, s) :: ws, G, ⟨M, h⟩ => by
    refine fin_putsG ws (G := upd G k s) ⟨max M (k + 1), fun j hj => ?_⟩
    rw [upd_ne _ _ (by omega)]
    exact h j (by omega)

/-! ### In the order of the text -/
theorem text_order {st : Nat → St} {T0 : List AV} {G0 : Heap} {B : Nat} (hall : ∀ i o, ops[i]? = some o → OkAt P ops o (TS ops st T0 (List.range i)) (GS st G0 (List.range i)) (st i)) :
    ∀ (k i : Nat), i + k = ops.size → ∀ (μ : LMap) (a : Act) (w : World), RepT μ (TS ops st T0 (List.range i)) a → Rel B μ (GS st G0 (List.range i)) w → (∃ M, ∀ k, M ≤ k → GS st G0 (List.range i) k = .free) →
    (∀ μ' a' w', μ.le μ' → RepT μ' (TS ops st T0 (List.range ops.size)) a' → Rel B μ' (GS st G0 (List.range ops.size)) w' → Below B w w' → Q .normal a' w') → wpOps P ops Q (List.range' i k) a w := by
  intro k
  induction k with
  | zero =>
    intro i hi μ a w hT hR _ hQ
    rw [show i = ops.size from by omega] at hT hR
    exact hQ μ a w (LMap.le_refl _) hT hR (Below.refl _ _)
  | succ k ih =>
    intro i hi μ a w hT hR hfin hQ
    have hlt : i < ops.size := by omega
    have ho : ops[i]? = some ops[i] := Array.getElem?_eq_getElem hlt
    rw [List.range'_succ, wpOps_cons]
    refine okAt_step (hall i _ ho) ho (fun _ _ => rfl) (fun _ _ => rfl) hT hR hfin fun v μ' w' h1 h2 h3 h4 => ?_
    have eT : TS ops st T0 (List.range (i + 1)) = setT (TS ops st T0 (List.range i)) ops[i].dst (st i).val := by
      simp only [TS, List.range_succ, List.foldl_append, List.foldl_cons, List.foldl_nil]
      have : dstOf ops i = ops[i].dst := by unfold dstOf; rw [ho]; rfl
      rw [this]
    have eG : GS st G0 (List.range (i + 1)) = putsG (GS st G0 (List.range i)) (st i).ws := by
      simp only [GS, List.range_succ, List.foldl_append, List.foldl_cons, List.foldl_nil]
    refine ih (i + 1) (by omega) μ' _ w' (by rw [eT]; exact (hT.mono h1).put _ h2) (by rw [eG]; exact h3) (by rw [eG]; exact fin_putsG _ hfin) fun μ2 a2 w2 g1 g2 g3 g4 => hQ μ2 a2 w2 (LMap.le_trans h1 g1) g2 g3 (h4.trans g4)

/-! ### In any order -/
inductive Bef (ops : Array Oper) : Nat → Nat → Prop
  | edge {i : Nat} {o : Oper} {e : Edge} : ops[i]? = some o → e ∈ o.after → Region.binds .any e = true → Bef ops i e.on
  | trans {i m j : Nat} : Bef ops i m → Bef ops m j → Bef ops i j

def ids (l : List (Nat × AObj)) : List Nat := l.map (·.1)
def idsW (l : List (Nat × Slot)) : List Nat := l.map (·.1)

structure Ordered (ops : Array Oper) (st : Nat → St) : Prop where
  back : ∀ i o, ops[i]? = some o → ∀ e ∈ o.after, Region.binds .any e = true → e.on < i
  temps : ∀ i j oi oj d, ops[i]? = some oi → ops[j]? = some oj → i ≠ j → oj.dst = some d → (d ∈ oi.looksAt ops ∨ oi.dst = some d) → (j < i → Bef ops i j) ∧ (i < j → Bef ops j i)
  heap : ∀ i j k, i < j → j < ops.size → ((k ∈ idsW (st i).ws ∧ (k ∈ ids (st j).rs ∨ k ∈ idsW (st j).ws)) ∨ (k ∈ ids (st i).rs ∧ k ∈ idsW (st j).ws)) → Bef ops j i

def closedE (ops : Array Oper) (listed : Array Bool) : Prop := ∀ i o, ops[i]? = some o → listed.getD i false = true → ∀ e ∈ o.after, Region.binds .any e = true → listed.getD e.on false = true

theorem closed_bef {listed : Array Bool} (hc : closedE ops listed) {i j : Nat} (h : Bef ops i j) : listed.getD i false = true → listed.getD j false = true := by
  induction h with
  | edge ho he hb => exact fun hi => hc _ _ ho hi _ he hb
  | trans _ _ h1 h2 => exact fun hi => h2 (h1 hi)

/-- All that stands before an operation that is ready has been listed. -/
theorem ready_bef {listed : Array Bool} (hc : closedE ops listed) {i : Nat} (hr : i ∈ Region.ready .any ops listed) : ∀ {x j : Nat}, Bef ops x j → x = i → listed.getD j false = true := by
  obtain ⟨_, o, ho, hall⟩ := mem_ready.1 hr
  intro x j h
  induction h with
  | edge ho' he hb => intro hx; subst hx; rw [ho] at ho'; cases ho'; exact hall _ he hb
  | trans h1 h2 ih1 _ => intro hx; exact closed_bef hc h2 (ih1 hx)

theorem length_setT (T : List AV) (d : Option Tmp) (v : AV) : (setT T d v).length = T.length := by cases d <;> simp [setT]
theorem rd_setT_ne (T : List AV) (d : Option Tmp) (v : AV) {t : Nat} (h : d ≠ some t) : rd (setT T d v) t = rd T t := by
  cases d with
  | none => rfl
  | some d =>
    have : d ≠ t := fun e => h (by rw [e])
    simp only [setT, rd_eq, List.getD_eq_getElem?_getD]
    rw [List.getElem?_set_ne this]
theorem rd_setT_same (T T' : List AV) (v : AV) (t : Nat) (h : T.length = T'.length) : rd (setT T (some t) v) t = rd (setT T' (some t) v) t := by
  simp only [setT, rd_eq, List.getD_eq_getElem?_getD, List.getElem?_set, if_true, h]

theorem rd_TS_filter (st : Nat → St) (t : Nat) : ∀ (L : List Nat) (T T' : List AV), T.length = T'.length → rd T t = rd T' t → rd (TS ops st T L) t = rd (TS ops st T' (L.filter fun i => dstOf ops i == some t)) t
  | [], _, _, _, h => h
  | i :: L, T, T', hl, h => by
    simp only [TS, List.foldl_cons, List.filter_cons]
    split
    · rename_i hd
      have hd' : dstOf ops i = some t := by simpa using hd
      simp only [List.foldl_cons]
      refine rd_TS_filter st t L _ _ (by simp [length_setT, hl]) ?_
      rw [hd']; exact rd_setT_same _ _ _ _ hl
    · rename_i hd
      have hd' : dstOf ops i ≠ some t := by simpa using hd
      refine rd_TS_filter st t L _ _ (by simp [length_setT, hl]) ?_
      rw [rd_setT_ne _ _ _ hd']; exact h

theorem putsG_out : ∀ (ws : List (Nat × Slot)) (G : Heap) {k : Nat}, k ∉ idsW ws → putsG G ws k = G k
  | [], _, _, _ => rfl
  | (j, s) :: ws, G, k, h => by
    simp only [idsW, List.map_cons, List.mem_cons, not_or] at h
    show putsG (upd G j s) ws k = G k
    rw [putsG_out ws _ h.2, upd_ne _ _ h.1]
theorem putsG_in : ∀ (ws : List (Nat × Slot)) (G G' : Heap) {k : Nat}, k ∈ idsW ws → putsG G ws k = putsG G' ws k
  | [], _, _, _, h => by simp [idsW] at h
  | (j, s) :: ws, G, G', k, h => by
    show putsG (upd G j s) ws k = putsG (upd G' j s) ws k
    by_cases hk : k ∈ idsW ws
    · exact putsG_in ws _ _ hk
    · rw [putsG_out ws _ hk, putsG_out ws _ hk]
      simp only [idsW, List.map_cons, List.mem_cons] at h
      rcases h with h | h
      · subst h; simp
      · exact absurd h hk

theorem GS_filter (st : Nat → St) (k : Nat) : ∀ (L : List Nat) (G G' : Heap), G k = G' k → GS st G L k = GS st G' (L.filter fun i => (idsW (st i).ws).contains k) k
  | [], _, _, h => h
  | i :: L, G, G', h => by
    simp only [GS, List.foldl_cons, List.filter_cons]
    split
    · rename_i hd
      simp only [List.foldl_cons]
      exact GS_filter st k L _ _ (putsG_in _ _ _ (by simpa using hd))
    · rename_i hd
      refine GS_filter st k L _ _ ?_
      rw [putsG_out _ _ (by simpa using hd)]; exact h

theorem setT_comm (T : List AV) {d d' : Option Tmp} (v v' : AV) (h : ∀ x, d = some x → d' ≠ some x) : setT (setT T d v) d' v' = setT (setT T d' v') d v := by
  cases d with
  | none => rfl
  | some x =>
    cases d' with
    | none => rfl
    | some y =>
      have : x ≠ y := fun e => h x rfl (by rw [e])
      simp only [setT]
      exact List.set_comm _ _ this
theorem TS_late (st : Nat → St) (d : Option Tmp) (v : AV) : ∀ (L : List Nat) (T : List AV), (∀ j ∈ L, ∀ x, d = some x → dstOf ops j ≠ some x) → TS ops st (setT T d v) L = setT (TS ops st T L) d v
  | [], _, _ => rfl
  | j :: L, T, h => by
    simp only [TS, List.foldl_cons]
    rw [setT_comm _ _ _ (h j (by simp))]
    exact TS_late st d v L _ (fun i hi => h i (by simp [hi]))
theorem putsG_comm (ws ws' : List (Nat × Slot)) (G : Heap) (h : ∀ k, k ∈ idsW ws → k ∉ idsW ws') : putsG (putsG G ws) ws' = putsG (putsG G ws') ws := by
  funext k
  by_cases h1 : k ∈ idsW ws
  · rw [putsG_out ws' _ (h k h1)]
    exact putsG_in ws _ _ h1
  · rw [putsG_out ws _ h1]
    by_cases h2 : k ∈ idsW ws'
    · exact putsG_in ws' _ _ h2
    · rw [putsG_out ws' _ h2, putsG_out ws' _ h2, putsG_out ws _ h1]
theorem GS_late (st : Nat → St) (ws : List (Nat × Slot)) : ∀ (L : List Nat) (G : Heap), (∀ j ∈ L, ∀ k, k ∈ idsW ws → k ∉ idsW (st j).ws) → GS st (putsG G ws) L = putsG (GS st G L) ws
  | [], _, _ => rfl
  | j :: L, G, h => by
    simp only [GS, List.foldl_cons]
    rw [putsG_comm _ _ _ (h j (by simp))]
    exact GS_late st ws L _ (fun i hi => h i (by simp [hi]))

def sel (n : Nat) (listed : Array Bool) : List Nat := (List.range n).filter fun i => listed.getD i false
def unl (n : Nat) (listed : Array Bool) : List Nat := (List.range n).filter fun i => !listed.getD i false

theorem range_split {n i : Nat} (h : i < n) : List.range n = List.range i ++ i :: List.range' (i + 1) (n - (i + 1)) := by
  have : n = i + (1 + (n - (i + 1))) := by omega
  conv => lhs; rw [this, List.range_eq_range', ← List.range'_append_1]
  rw [List.range_eq_range', Nat.zero_add, Nat.add_comm 1 (n - (i + 1)), List.range'_succ]

theorem filter_range_lt {n i : Nat} (h : i ≤ n) (p : Nat → Bool) : (List.range n).filter (fun j => decide (j < i) && p j) = (List.range i).filter p := by
  have e : n = i + (n - i) := by omega
  rw [e, List.range_eq_range', ← List.range'_append_1, List.filter_append]
  have h1 : (List.range' 0 i).filter (fun j => decide (j < i) && p j) = (List.range' 0 i).filter p := by
    refine List.filter_congr fun j hj => ?_
    have : j < i := by simp [List.mem_range'_1] at hj; omega
    simp [this]
  have h2 : (List.range' (0 + i) (n - i)).filter (fun j => decide (j < i) && p j) = [] := by
    refine List.filter_eq_nil_iff.2 fun j hj => ?_
    have : ¬ j < i := by simp [List.mem_range'_1] at hj; omega
    simp [this]
  rw [h1, h2, List.append_nil, List.range_eq_range']

theorem getD_false_of_true {listed : Array Bool} {i : Nat} (h : listed.getD i true = false) : i < listed.size ∧ listed.getD i false = false := by
  rcases Nat.lt_or_ge i listed.size with hl | hl
  · simp [hl] at h ⊢
    exact h
  · simp [Array.getElem?_eq_none hl] at h

theorem any_order {st : Nat → St} {T0 : List AV} {G0 : Heap} {B : Nat} (hord : Ordered ops st) (hall : ∀ i o, ops[i]? = some o → OkAt P ops o (TS ops st T0 (List.range i)) (GS st G0 (List.range i)) (st i)) {w0 : World} {μ0 : LMap}
    (hfin : ∃ M, ∀ k, M ≤ k → G0 k = .free)
    (hQ : ∀ μ' a' w', μ0.le μ' → RepT μ' (TS ops st T0 (List.range ops.size)) a' → Rel B μ' (GS st G0 (List.range ops.size)) w' → Below B w0 w' → Q .normal a' w') :
    ∀ (fuel : Nat) (listed : Array Bool) (μ : LMap) (a : Act) (w : World), listed.size = ops.size → (unl ops.size listed).length = fuel → closedE ops listed → RepT μ (TS ops st T0 (sel ops.size listed)) a → Rel B μ (GS st G0 (sel ops.size listed)) w →
    μ0.le μ → Below B w0 w → wpAny P .any ops Q fuel listed a w := by
  intro fuel
  induction fuel with
  | zero =>
    intro listed μ a w hsz hu hc hT hR hle hb
    have hnil : unl ops.size listed = [] := List.length_eq_zero_iff.1 hu
    have hsel : sel ops.size listed = List.range ops.size := by
      unfold sel
      refine List.filter_eq_self.2 fun i hi => ?_
      unfold unl at hnil
      have := (List.filter_eq_nil_iff.1 hnil) i hi
      simpa using this
    rw [hsel] at hT hR
    refine ⟨?_, hQ μ a w hle hT hR hb⟩
    cases hr : Region.ready .any ops listed with
    | nil => rfl
    | cons i is =>
      have hi : i ∈ Region.ready .any ops listed := by rw [hr]; simp
      obtain ⟨h0, o, ho, _⟩ := mem_ready.1 hi
      have hlt : i < ops.size := by
        rcases Nat.lt_or_ge i ops.size with h | h
        · exact h
        · rw [Array.getElem?_eq_none h] at ho; cases ho
      obtain ⟨h1, h2⟩ := getD_false_of_true h0
      have : i ∈ sel ops.size listed := by rw [hsel]; simpa using hlt
      unfold sel at this
      simp only [List.mem_filter] at this
      rw [h2] at this
      cases this.2
  | succ fuel ih =>
    intro listed μ a w hsz hu hc hT hR hle hb
    refine ⟨fun hnil => ?_, fun i hi => ?_⟩
    · -- something is ready
      exfalso
      have hne : unl ops.size listed ≠ [] := by intro h; rw [h] at hu; simp at hu
      have hex : ∃ i, i < ops.size ∧ listed.getD i false = false := by
        cases hq : unl ops.size listed with
        | nil => exact absurd hq hne
        | cons i is =>
          have : i ∈ unl ops.size listed := by rw [hq]; simp
          unfold unl at this
          simp only [List.mem_filter, List.mem_range] at this
          exact ⟨i, this.1, by simpa using this.2⟩
      have key : ∀ n i, i < n → i < ops.size → listed.getD i false = false → False := by
        intro n
        induction n with
        | zero => intro i h; omega
        | succ n ihn =>
          intro i hin his hl
          have hsz' : i < listed.size := by omega
          have : i ∈ Region.ready .any ops listed := by
            refine mem_ready.2 ⟨by simp [hsz'] at hl ⊢; exact hl, ops[i], Array.getElem?_eq_getElem his, fun e he hbe => ?_⟩
            have hlt := hord.back i _ (Array.getElem?_eq_getElem his) e he hbe
            cases hle' : listed.getD e.on false with
            | true => rfl
            | false => exact (ihn e.on (by omega) (by omega) hle').elim
          rw [hnil] at this; cases this
      obtain ⟨i, h1, h2⟩ := hex
      exact key (i + 1) i (by omega) h1 h2
    · obtain ⟨h0, o, ho, hedges⟩ := mem_ready.1 hi
      obtain ⟨hil, hif⟩ := getD_false_of_true h0
      have his : i < ops.size := by omega
      have bef1 : ∀ j, Bef ops i j → listed.getD j false = true := fun j h => ready_bef hc hi h rfl
      have bef2 : ∀ j, listed.getD j false = true → ¬ Bef ops j i := fun j hj h => by
        have := closed_bef hc h hj
        rw [hif] at this; cases this
      have agree : ∀ t ∈ o.looksAt ops, rd (TS ops st T0 (sel ops.size listed)) t = rd (TS ops st T0 (List.range i)) t := by
        intro t ht
        rw [rd_TS_filter st t _ T0 T0 rfl rfl, rd_TS_filter st t (List.range i) T0 T0 rfl rfl]
        congr 2
        unfold sel
        rw [List.filter_filter, ← filter_range_lt (Nat.le_of_lt his) (fun j => dstOf ops j == some t)]
        refine List.filter_congr fun j hj => ?_
        cases hd : (dstOf ops j == some t) with
        | false => simp
        | true =>
          have hd' : dstOf ops j = some t := by simpa using hd
          simp only [Bool.true_and, Bool.and_true]
          unfold dstOf at hd'
          cases hoj : ops[j]? with
          | none => rw [hoj] at hd'; cases hd'
          | some oj =>
            rw [hoj] at hd'
            simp only [Option.bind_some] at hd'
            by_cases hji : j = i
            · subst hji; simp [hif]
            · obtain ⟨c1, c2⟩ := hord.temps i j o oj t ho hoj (fun e => hji e.symm) hd' (.inl ht)
              rcases Nat.lt_or_ge j i with hlt | hge
              · rw [bef1 j (c1 hlt)]; simp [hlt]
              · have hlt : i < j := by omega
                have : listed.getD j false = false := by
                  cases hq : listed.getD j false with
                  | false => rfl
                  | true => exact absurd (c2 hlt) (bef2 j hq)
                rw [this]; simp; omega
      have agreeG : ∀ k, (k ∈ (st i).rs.map (·.1) ∨ k ∈ (st i).ws.map (·.1)) → GS st G0 (sel ops.size listed) k = GS st G0 (List.range i) k := by
        intro k hk
        rw [GS_filter st k _ G0 G0 rfl, GS_filter st k (List.range i) G0 G0 rfl]
        congr 1
        unfold sel
        rw [List.filter_filter, ← filter_range_lt (Nat.le_of_lt his) (fun j => (idsW (st j).ws).contains k)]
        refine List.filter_congr fun j hj => ?_
        cases hd : (idsW (st j).ws).contains k with
        | false => simp
        | true =>
          have hd' : k ∈ idsW (st j).ws := by simpa using hd
          simp only [Bool.true_and, Bool.and_true]
          have hjs : j < ops.size := by simpa using hj
          by_cases hji : j = i
          · subst hji; simp [hif]
          · rcases Nat.lt_or_ge j i with hlt | hge
            · have := hord.heap j i k hlt his (.inl ⟨hd', hk⟩)
              rw [bef1 j this]; simp [hlt]
            · have hlt : i < j := by omega
              have : listed.getD j false = false := by
                cases hq : listed.getD j false with
                | false => rfl
                | true =>
                  refine absurd (hord.heap i j k hlt hjs ?_) (bef2 j hq)
                  rcases hk with hk | hk
                  · exact .inr ⟨hk, hd'⟩
                  · exact .inl ⟨hk, .inr hd'⟩
              rw [this]; simp; omega
      have hfinS : ∃ M, ∀ k, M ≤ k → GS st G0 (sel ops.size listed) k = .free := by
        have : ∀ (L : List Nat) (G : Heap), (∃ M, ∀ k, M ≤ k → G k = .free) → ∃ M, ∀ k, M ≤ k → GS st G L k = .free := by
          intro L
          induction L with
          | nil => exact fun G h => h
          | cons j L ihL => exact fun G h => ihL _ (fin_putsG _ h)
        exact this _ _ hfin
      refine okAt_step (hall i o ho) ho agree agreeG hT hR hfinS fun v μ' w' g1 g2 g3 g4 => ?_
      -- the new state
      have hsel1 : sel ops.size listed = (List.range i).filter (fun i => listed.getD i false) ++ (List.range' (i + 1) (ops.size - (i + 1))).filter (fun i => listed.getD i false) := by
        unfold sel
        rw [range_split his, List.filter_append, List.filter_cons, hif]
        simp
      have hset : ∀ j, j ≠ i → (listed.setIfInBounds i true).getD j false = listed.getD j false := fun j hj => getD_set_ne false (fun e => hj e.symm)
      have hset1 : (listed.setIfInBounds i true).getD i false = true := by simp [hil]
      have hf1 : (List.range i).filter (fun j => (listed.setIfInBounds i true).getD j false) = (List.range i).filter (fun i => listed.getD i false) :=
        List.filter_congr fun j hj => hset j (by simp at hj; omega)
      have hf2 : (List.range' (i + 1) (ops.size - (i + 1))).filter (fun j => (listed.setIfInBounds i true).getD j false) = (List.range' (i + 1) (ops.size - (i + 1))).filter (fun i => listed.getD i false) :=
        List.filter_congr fun j hj => hset j (by simp [List.mem_range'_1] at hj; omega)
      have hsel2 : sel ops.size (listed.setIfInBounds i true) = (List.range i).filter (fun i => listed.getD i false) ++ i :: (List.range' (i + 1) (ops.size - (i + 1))).filter (fun i => listed.getD i false) := by
        unfold sel
        rw [range_split his, List.filter_append, List.filter_cons, hset1, hf1, hf2]
        simp
      have hdst : dstOf ops i = o.dst := by unfold dstOf; rw [ho]; rfl
      have late : ∀ j ∈ (List.range' (i + 1) (ops.size - (i + 1))).filter (fun i => listed.getD i false), i < j ∧ j < ops.size ∧ ¬ Bef ops j i := by
        intro j hj
        simp only [List.mem_filter, List.mem_range'_1] at hj
        exact ⟨by omega, by omega, bef2 j hj.2⟩
      have eT : TS ops st T0 (sel ops.size (listed.setIfInBounds i true)) = setT (TS ops st T0 (sel ops.size listed)) o.dst (st i).val := by
        rw [hsel1, hsel2]
        simp only [TS, List.foldl_append, List.foldl_cons, hdst]
        refine TS_late st o.dst (st i).val _ _ fun j hj x hx hx' => ?_
        obtain ⟨l1, l2, l3⟩ := late j hj
        have hoj : ops[j]? = some ops[j] := Array.getElem?_eq_getElem l2
        unfold dstOf at hx'
        rw [hoj] at hx'
        exact l3 ((hord.temps i j o _ x ho hoj (by omega) hx' (.inr hx)).2 l1)
      have eG : GS st G0 (sel ops.size (listed.setIfInBounds i true)) = putsG (GS st G0 (sel ops.size listed)) (st i).ws := by
        rw [hsel1, hsel2]
        simp only [GS, List.foldl_append, List.foldl_cons]
        refine GS_late st (st i).ws _ _ fun j hj k hk hk' => ?_
        obtain ⟨l1, l2, l3⟩ := late j hj
        exact l3 (hord.heap i j k l1 l2 (.inl ⟨hk, .inr hk'⟩))
      refine ih (listed.setIfInBounds i true) μ' _ w' (by simp [hsz]) ?_ ?_ (by rw [eT]; exact (hT.mono g1).put _ g2) (by rw [eG]; exact g3) (LMap.le_trans hle g1) (hb.trans g4)
      · -- one less to come
        have hu1 : unl ops.size listed = (List.range i).filter (fun i => !listed.getD i false) ++ i :: (List.range' (i + 1) (ops.size - (i + 1))).filter (fun i => !listed.getD i false) := by
          unfold unl
          rw [range_split his, List.filter_append, List.filter_cons, hif]
          simp
        have hu2 : unl ops.size (listed.setIfInBounds i true) = (List.range i).filter (fun i => !listed.getD i false) ++ (List.range' (i + 1) (ops.size - (i + 1))).filter (fun i => !listed.getD i false) := by
          unfold unl
          rw [range_split his, List.filter_append, List.filter_cons, hset1]
          simp only [Bool.not_true, Bool.false_eq_true, if_false]
          congr 1
          · exact List.filter_congr fun j hj => by rw [hset j (by simp at hj; omega)]
          · exact List.filter_congr fun j hj => by rw [hset j (by simp [List.mem_range'_1] at hj; omega)]
        rw [hu1] at hu
        rw [hu2]
        simp at hu ⊢
        omega
      · intro j oj hoj hj e he hbe
        by_cases hji : j = i
        · subst hji
          rw [ho] at hoj; cases hoj
          exact getD_set_true (hedges e he hbe)
        · rw [hset j hji] at hj
          exact getD_set_true (hc j oj hoj hj e he hbe)
end
end Go.Abs
