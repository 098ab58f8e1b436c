/- The operations of a region over the abstract heap: what each asks and what it comes to, and that the model's operation does just that. -/
import Derived.Test.YtgkknajopejleaaAbsA
import Derived.IntWalk
import Derived.DeepKeys
namespace Go.Abs
open Go.RowKit (Below)

inductive TyK where
  | other
  | int (k : IntKind)
  | str
  | struct (fs : List (Nat × Nat))
  | array (n es : Nat) (eagg : Bool)
  | slice (es ebytes : Nat) (ezero : List Cell)

structure TyI where
  agg : Bool
  size : Nat
  bytes : Nat
  zero : List Cell
  kind : TyK

def cellOf : Value → Option Cell
  | .int k n => some (.int k n)
  | .bool b => some (.bool b)
  | .string s => some (.str s)
  | .pointer none => some .nilp
  | .slice none 0 0 => some .nils
  | .nilFunc => some .nilf
  | _ => none

def cellsOfL : List Value → Option (List Cell)
  | [] => some []
  | v :: vs => match cellOf v, cellsOfL vs with | some c, some cs => some (c :: cs) | _, _ => none

theorem cellOf_rep {μ : LMap} {v : Value} {c : Cell} (h : cellOf v = some c) : RepC μ c v := by
  unfold cellOf at h
  split at h <;> simp at h <;> subst h <;> simp [RepC]
theorem cellsOfL_rep {μ : LMap} : ∀ {vs : List Value} {cs : List Cell}, cellsOfL vs = some cs → RepCs μ cs vs
  | [], cs, h => by simp [cellsOfL] at h; subst h; trivial
  | v :: vs, cs, h => by
    simp only [cellsOfL] at h
    split at h
    · rename_i c cs' h1 h2
      simp at h; subst h
      exact ⟨cellOf_rep h1, cellsOfL_rep h2⟩
    · cases h

def zeroOf (P : Program) (t : TypeId) : Option (List Cell) := (P.info? t).bind fun i => i.zero.bind fun z => cellsOfL z.cells.toList

def isAggT (P : Program) (t : TypeId) : Bool := match P.underlying t with | some (.struct _) | some (.array ..) => true | _ => false

def kindOf (P : Program) (t : TypeId) : TyK :=
  match P.underlying t with
  | some (.int k) => .int k
  | some .string => .str
  | some (.struct fs) => match fs.toList.mapM (fun f => (P.info? f.type).map fun i => (f.offset, i.size)) with
    | some l => .struct l
    | none => .other
  | some (.array n e) => match P.info? e, P.underlying e with
    | some ie, some _ => .array n ie.size (isAggT P e)
    | _, _ => .other
  | some (.slice e) => match P.info? e, zeroOf P e with
    | some ie, some z => .slice ie.size ie.bytes z
    | _, _ => .other
  | _ => .other

def tyOf (P : Program) (t : TypeId) : Option TyI :=
  match P.info? t, P.underlying t, zeroOf P t with
  | some i, some d, some z => some { agg := (match d with | .struct _ | .array .. => true | _ => false), size := i.size, bytes := i.bytes, zero := z, kind := kindOf P t }
  | _, _, _ => none

theorem tyOf_spec {P : Program} {t : TypeId} {ti : TyI} (h : tyOf P t = some ti) : ∃ i d z, P.info? t = some i ∧ P.underlying t = some d ∧ i.zero = some z ∧
    cellsOfL z.cells.toList = some ti.zero ∧ ti.size = i.size ∧ ti.bytes = i.bytes ∧ ti.agg = (match d with | .struct _ | .array .. => true | _ => false) ∧ ti.kind = kindOf P t := by
  unfold tyOf at h
  split at h
  · rename_i i d z h1 h2 h3
    simp at h; subst h
    unfold zeroOf at h3
    rw [h1] at h3
    simp only [Option.bind_some] at h3
    cases hz : i.zero with
    | none => rw [hz] at h3; cases h3
    | some zz => exact ⟨i, d, zz, h1, h2, hz, by rw [hz] at h3; simpa using h3, rfl, rfl, rfl, rfl⟩
  · cases h

/-! ### The heap of a walk -/
structure AHeap where
  old : Heap
  N : Nat
  new : List Slot

def nid (N i : Nat) : Nat := N + i
def AHeap.get (h : AHeap) : Heap := fun k => if k < h.N then h.old k else h.new.getD (k - h.N) .free
def setAt : List Slot → Nat → Slot → List Slot
  | [], 0, s => [s]
  | [], n + 1, s => .free :: setAt [] n s
  | _ :: l, 0, s => s :: l
  | x :: l, n + 1, s => x :: setAt l n s
def AHeap.put (h : AHeap) (k : Nat) (s : Slot) : AHeap := if k < h.N then { h with old := upd h.old k s } else { h with new := setAt h.new (k - h.N) s }
def AHeap.puts (h : AHeap) (ws : List (Nat × Slot)) : AHeap := ws.foldl (fun h p => h.put p.1 p.2) h
def AHeap.nxt (h : AHeap) : Nat := nid h.N h.new.length
def putsG (G : Heap) (ws : List (Nat × Slot)) : Heap := ws.foldl (fun G p => upd G p.1 p.2) G

theorem getD_setAt : ∀ (l : List Slot) (n : Nat) (s : Slot) (j : Nat), (setAt l n s).getD j .free = if j = n then s else l.getD j .free
  | [], 0, s, j => by cases j <;> simp [setAt]
  | [], n + 1, s, 0 => by simp [setAt]
  | [], n + 1, s, j + 1 => by
    have := getD_setAt [] n s j
    simp [setAt] at this ⊢
    exact this
  | x :: l, 0, s, j => by cases j <;> simp [setAt]
  | x :: l, n + 1, s, 0 => by simp [setAt]
  | x :: l, n + 1, s, j + 1 => by
    have := getD_setAt l n s j
    simp [setAt] at this ⊢
    exact this

theorem AHeap.get_put (h : AHeap) (k : Nat) (s : Slot) : (h.put k s).get = upd h.get k s := by
  funext j
  unfold AHeap.put
  split
  · rename_i hk
    by_cases e : j = k
    · subst e; simp [AHeap.get, hk]
    · rw [upd_ne _ _ e]; simp [AHeap.get, upd_ne _ _ e]
  · rename_i hk
    by_cases e : j = k
    · subst e
      simp only [AHeap.get, hk, if_false, getD_setAt, if_true, upd_same]
    · rw [upd_ne _ _ e]
      simp only [AHeap.get]
      split
      · rfl
      · rw [getD_setAt, if_neg (by omega)]
theorem AHeap.get_puts : ∀ (ws : List (Nat × Slot)) (h : AHeap), (h.puts ws).get = putsG h.get ws
  | [], _ => rfl
  | p :: ws, h => by
    show ((h.put p.1 p.2).puts ws).get = putsG (upd h.get p.1 p.2) ws
    rw [AHeap.get_puts ws, AHeap.get_put]
theorem AHeap.get_nxt (h : AHeap) : h.get h.nxt = .free := by
  have h1 : ¬ h.nxt < h.N := by unfold AHeap.nxt nid; omega
  have h2 : h.new.length ≤ h.nxt - h.N := by unfold AHeap.nxt nid; omega
  simp only [AHeap.get, h1, if_false, List.getD_eq_getElem?_getD, List.getElem?_eq_none h2]
  rfl
theorem AHeap.fin (h : AHeap) : ∃ M, ∀ k, M ≤ k → h.get k = .free := ⟨h.N + h.new.length, fun k hk => by
  simp only [AHeap.get]
  rw [if_neg (by omega), List.getD_eq_getElem?_getD, List.getElem?_eq_none (by omega)]
  rfl⟩

def splice (cells : List Cell) (off : Nat) (vs : List Cell) : List Cell := cells.take off ++ vs ++ cells.drop (off + vs.length)
theorem length_splice {cells : List Cell} {off : Nat} {vs : List Cell} (h : off + vs.length ≤ cells.length) : (splice cells off vs).length = cells.length := by
  simp [splice]; omega

def AV.cells : AV → Option (List Cell)
  | .c x => some [x]
  | .agg cs => some cs
  | _ => none

def constAV : Value → AV
  | .int k n => .c (.int k n)
  | .bool b => .c (.bool b)
  | .string s => .c (.str s)
  | .pointer none => .c .nilp
  | .slice none 0 0 => .c .nils
  | .nilFunc => .c .nilf
  | _ => .any

theorem constAV_rep {μ : LMap} (v : Value) : RepV μ (constAV v) v := by
  unfold constAV
  split <;> first | exact .c rfl | exact .any

def rd : List AV → Nat → AV
  | [], _ => .any
  | a :: _, 0 => a
  | _ :: l, n + 1 => rd l n

theorem rd_eq : ∀ (l : List AV) (n : Nat), rd l n = l.getD n .any
  | [], _ => rfl
  | _ :: _, 0 => rfl
  | _ :: l, n + 1 => by simpa [rd] using rd_eq l n

def ev (T : List AV) : Operand → AV
  | .tmp t => rd T t
  | .const v => constAV v
  | .global _ => .any
  | .func f => .c (.fn f [])

/-- The frame's slots. -/
structure RepT (μ : LMap) (T : List AV) (a : Act) : Prop where
  defers : a.defers = []
  size : a.tmps.size = T.length
  get : ∀ (i : Nat) (x : AV), T[i]? = some x → ∃ v, a.tmps[i]? = some v ∧ RepV μ x v

theorem RepT.ev {μ : LMap} {T : List AV} {a : Act} (h : RepT μ T a) (x : Operand) : RepV μ (ev T x) (a.eval x) := by
  cases x with
  | tmp t =>
    simp only [Abs.ev, Act.eval, rd_eq]
    cases ht : T[t]? with
    | none => simp [List.getD, ht]; exact .any
    | some y =>
      obtain ⟨v, hv, hr⟩ := h.get t y ht
      have e : a.tmps.getD t undef = v := by
        rw [Array.getD_eq_getD_getElem?, hv]; rfl
      rw [e]
      simpa [List.getD, ht] using hr
  | const v => exact constAV_rep v
  | global g => exact .any
  | func f => exact .c ⟨[], rfl, trivial⟩

theorem RepT.mono {μ μ' : LMap} (h : μ.le μ') {T : List AV} {a : Act} (ht : RepT μ T a) : RepT μ' T a :=
  ⟨ht.defers, ht.size, fun i x hx => let ⟨v, hv, hr⟩ := ht.get i x hx; ⟨v, hv, hr.mono h⟩⟩

def setT (T : List AV) : Option Tmp → AV → List AV
  | some d, v => T.set d v
  | none, _ => T

theorem RepT.put {μ : LMap} {T : List AV} {a : Act} (h : RepT μ T a) (d : Option Tmp) {x : AV} {v : Value} (hv : RepV μ x v) : RepT μ (setT T d x) (a.put d v) := by
  cases d with
  | none => exact h
  | some d =>
    refine ⟨h.defers, by simp [Act.put, setT, h.size], fun i y hy => ?_⟩
    simp only [setT, List.getElem?_set] at hy
    simp only [Act.put, Array.getElem?_setIfInBounds]
    split at hy
    · rename_i e
      subst e
      split at hy
      · rename_i hlt
        simp at hy; subst hy
        exact ⟨v, by simp [h.size, hlt], hv⟩
      · cases hy
    · rename_i e
      simp only [e, if_false]
      exact h.get i y hy

/-! ### What an operation does -/

def OpS (P : Program) (o : Oper) (ρ : Operand → AV) (val : AV) (reads : List (Nat × AObj)) (writes : List (Nat × Slot)) : Prop :=
  ∀ (B : Nat) (μ : LMap) (G : Heap) (w : World) (a : Act) (next : Act → World → Prop) (Q : Exit → Act → World → Prop), Rel B μ G w → (∃ M, ∀ k, M ≤ k → G k = .free) →
    (∀ p ∈ reads, G p.1 = .live p.2) → (∀ p ∈ writes, (∃ ob, (p.1, ob) ∈ reads) ∨ G p.1 = .free) → (∀ x ∈ o.op.operands, RepV μ (ρ x) (a.eval x)) →
    (∀ v μ' w', μ.le μ' → RepV μ' val v → Rel B μ' (putsG G writes) w' → Below B w w' → next (a.put o.dst v) w') → o.wp P a w next Q

theorem wp_value {P : Program} {o : Oper} {a : Act} {w w' : World} {v : Value} {next : Act → World → Prop} {Q : Exit → Act → World → Prop}
    (h : (execOp a.eval o).run P w = .ok (.value v) w') (hn : next (a.put o.dst v) w') : o.wp P a w next Q := by
  unfold Oper.wp; rw [h]; exact hn
theorem wp_skip' {P : Program} {o : Oper} {a : Act} {w w' : World} {next : Act → World → Prop} {Q : Exit → Act → World → Prop}
    (h : (execOp a.eval o).run P w = .ok .skip w') (hn : next (a.put o.dst undef) w') : o.wp P a w next Q := by
  unfold Oper.wp; rw [h]; exact hn

/-- A pure operation. -/
theorem OpS.pure {P : Program} {o : Oper} {ρ : Operand → AV} {val : AV}
    (h : ∀ (μ : LMap) (w : World) (a : Act), (∀ x ∈ o.op.operands, RepV μ (ρ x) (a.eval x)) → ∃ v, (execOp a.eval o).run P w = .ok (.value v) w ∧ RepV μ val v) : OpS P o ρ val [] [] := by
  intro B μ G w a next Q hR _ _ _ hops hn
  obtain ⟨v, h1, h2⟩ := h μ w a hops
  exact wp_value h1 (hn v μ w (LMap.le_refl _) h2 hR (Below.refl _ _))

theorem RepV.c_inv {μ : LMap} {c : Cell} {v : Value} (h : RepV μ (.c c) v) : RepC μ c v := by cases h; assumption
theorem RepV.agg_inv {μ : LMap} {cs : List Cell} {v : Value} (h : RepV μ (.agg cs) v) : ∃ vs : List Value, v = .agg vs.toArray ∧ RepCs μ cs vs := by
  cases h; exact ⟨_, rfl, by assumption⟩
theorem RepV.cells_inv {μ : LMap} {x : AV} {cs : List Cell} {v : Value} (hx : x.cells = some cs) (h : RepV μ x v) : RepCs μ cs v.cells.toList := by
  cases h with
  | c hc =>
    rename_i c
    simp [AV.cells] at hx; subst hx
    have h1 := hc.oneCell
    have : v.cells = #[v] := by cases v <;> simp_all [Value.cells, Value.oneCell']
    rw [this]
    exact ⟨hc, trivial⟩
  | agg hc => simp [AV.cells] at hx; subst hx; simpa [Value.cells] using hc
  | tup => simp [AV.cells] at hx
  | any => simp [AV.cells] at hx
theorem RepV.tup_inv {μ : LMap} {as : List AV} {v : Value} (h : RepV μ (.tup as) v) : ∃ vs : List Value, v = .tuple vs.toArray ∧ as.length = vs.length ∧ ∀ (i : Nat) (a : AV) (u : Value), as[i]? = some a → vs[i]? = some u → RepV μ a u := by
  cases h; exact ⟨_, rfl, by assumption, by assumption⟩

theorem zeroOf_spec {P : Program} {t : TypeId} {z : List Cell} (h : zeroOf P t = some z) : ∃ i zz, P.info? t = some i ∧ i.zero = some zz ∧ cellsOfL zz.cells.toList = some z := by
  unfold zeroOf at h
  cases hi : P.info? t with
  | none => rw [hi] at h; cases h
  | some i =>
    rw [hi] at h
    simp only [Option.bind_some] at h
    cases hz : i.zero with
    | none => rw [hz] at h; cases h
    | some zz => exact ⟨i, zz, rfl, hz, by rw [hz] at h; simpa using h⟩

theorem kind_int {P : Program} {t : TypeId} {k : IntKind} (h : kindOf P t = .int k) : P.underlying t = some (.int k) := by
  unfold kindOf at h
  split at h <;> (try split at h) <;> simp_all
theorem kind_str {P : Program} {t : TypeId} (h : kindOf P t = .str) : P.underlying t = some .string := by
  unfold kindOf at h
  split at h <;> (try split at h) <;> simp_all
theorem kind_struct {P : Program} {t : TypeId} {l : List (Nat × Nat)} (h : kindOf P t = .struct l) : ∃ fs, P.underlying t = some (.struct fs) ∧ fs.toList.mapM (fun f => (P.info? f.type).map fun i => (f.offset, i.size)) = some l := by
  unfold kindOf at h
  split at h <;> (try split at h) <;> simp_all
theorem kind_array {P : Program} {t : TypeId} {n es : Nat} {ea : Bool} (h : kindOf P t = .array n es ea) : ∃ e ie d, P.underlying t = some (.array n e) ∧ P.info? e = some ie ∧ ie.size = es ∧ P.underlying e = some d ∧ ea = isAggT P e := by
  unfold kindOf at h
  split at h <;> (try split at h) <;> simp_all
theorem kind_slice {P : Program} {t : TypeId} {es eb : Nat} {ez : List Cell} (h : kindOf P t = .slice es eb ez) : ∃ e ie z, P.underlying t = some (.slice e) ∧ P.info? e = some ie ∧ ie.size = es ∧ ie.bytes = eb ∧ ie.zero = some z ∧ cellsOfL z.cells.toList = some ez := by
  unfold kindOf at h
  split at h <;> (try split at h) <;> simp_all
  rename_i hie hz
  obtain ⟨i, zz, h1, h2, h3⟩ := zeroOf_spec hz
  rw [hie] at h1; cases h1
  exact ⟨zz, h2, h3⟩
end Go.Abs
