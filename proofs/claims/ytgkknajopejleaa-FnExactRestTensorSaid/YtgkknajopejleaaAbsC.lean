/- Each operation's soundness over the abstract heap. -/
import Derived.Test.YtgkknajopejleaaAbsB
namespace Go.Abs
open Go.RowKit (Below)

/-! ### Calls by contract -/
def RepVs (μ : LMap) : List AV → List Value → Prop
  | [], [] => True
  | a :: as, v :: vs => RepV μ a v ∧ RepVs μ as vs
  | _, _ => False

def callable (P : Program) (f : FuncId) : Bool :=
  match P.funcs[f]? with
  | some fn => !(fn.name == "runtime.NumGoroutine") && fn.body.isSome
  | none => false

def FSpec (P : Program) (f : FuncId) (args : List AV) (val : AV) (reads : List (Nat × AObj)) (writes : List (Nat × Slot)) : Prop :=
  callable P f = true ∧ ∀ (B : Nat) (μ : LMap) (G : Heap) (w : World) (vs : List Value), Rel B μ G w → (∃ M, ∀ k, M ≤ k → G k = .free) →
    (∀ p ∈ reads, G p.1 = .live p.2) → (∀ p ∈ writes, (∃ ob, (p.1, ob) ∈ reads) ∨ G p.1 = .free) → RepVs μ args vs →
    Calls P f vs.toArray w (fun e w' => ∃ v μ', e = .returned v ∧ μ.le μ' ∧ RepV μ' val v ∧ Rel B μ' (putsG G writes) w' ∧ Below B w w')

abbrev Kont := AV → List (Nat × AObj) → List (Nat × Slot) → Prop

def callE (P : Program) (f : FuncId) (args : List AV) (h : AHeap) (K : Kont) : Prop :=
  ∃ val reads writes, FSpec P f args val reads writes ∧ (∀ p ∈ reads, h.get p.1 = .live p.2) ∧ (∀ p ∈ writes, (∃ ob, (p.1, ob) ∈ reads) ∨ h.get p.1 = .free) ∧ K val reads writes

def fillC (place : Nat → Option (Nat × Nat)) (cells : List Cell) : List (Nat × AV) → Option (List Cell)
  | [] => some cells
  | (i, v) :: rest =>
    match place i, v.cells with
    | some (off, size), some vs => if vs.length = size ∧ off + vs.length ≤ cells.length then fillC place (splice cells off vs) rest else none
    | _, _ => none

def placeOf : TyK → Nat → Option (Nat × Nat)
  | .struct fs, i => fs[i]?
  | .array _ es _, i => some (i * es, es)
  | _, _ => none

def isPlace : TyK → Bool
  | .struct _ => true
  | .array _ _ _ => true
  | _ => false

def ptrs : List AV → Option (List (Nat × Nat))
  | [] => some []
  | .c (.ptr k off) :: l => (ptrs l).map ((k, off) :: ·)
  | _ :: _ => none

def sameInts : List Cell → List Cell → Bool
  | [], [] => true
  | .int k _ :: l, .int k' _ :: l' => k = k' && sameInts l l'
  | _, _ => false

def intsEq : List Cell → List Cell → Bool
  | .int _ a :: l, .int _ b :: l' => a == b && intsEq l l'
  | _, _ => true

/-- An array type whose items lead to integers of one cell. -/
def intArr (P : Program) : Nat → TypeId → Bool
  | 0, _ => false
  | d + 1, t => match P.underlying t with
    | some (.int _) => (P.info? t).map (·.size) == some 1
    | some (.array n e) => (P.info? t).map (·.size) == some (n * P.cellsOf e) && intArr P d e
    | _ => false

def eqArr (P : Program) (t : TypeId) : Bool := !(P.eqGuardType P.depth t) && intArr P 4 t && isAggT P t

def binE (P : Program) (op : BinOp) (t : TypeId) (a b : AV) (K : AV → Prop) : Prop :=
  match a, b with
  | .c (.int k m), .c (.int k' n) =>
    match op with
    | .add => k' = k ∧ K (.c (.int k (k.wrap (m + n))))
    | .sub => k' = k ∧ K (.c (.int k (k.wrap (m - n))))
    | .mul => k' = k ∧ K (.c (.int k (k.wrap (m * n))))
    | .quo => k' = k ∧ n ≠ 0 ∧ K (.c (.int k (k.wrap (m.tdiv n))))
    | .rem => k' = k ∧ n ≠ 0 ∧ K (.c (.int k (m.tmod n)))
    | .and => k' = k ∧ K (.c (.int k (k.wrap (BitVec.ofInt k.bits m &&& BitVec.ofInt k.bits n).toNat)))
    | .shl => 0 ≤ n ∧ K (.c (.int k (k.wrap (m * 2 ^ (min n.toNat k.bits)))))
    | .shr => 0 ≤ n ∧ K (.c (.int k (m.fdiv (2 ^ (min n.toNat k.bits)))))
    | .eql => k' = k ∧ K (.c (.bool (m == n)))
    | .neq => k' = k ∧ K (.c (.bool (m != n)))
    | .lss => k' = k ∧ K (.c (.bool (decide (m < n))))
    | .leq => k' = k ∧ K (.c (.bool (decide (m ≤ n))))
    | .gtr => k' = k ∧ K (.c (.bool (decide (n < m))))
    | .geq => k' = k ∧ K (.c (.bool (decide (n ≤ m))))
    | _ => False
  | .c (.bool x), .c (.bool y) =>
    match op with
    | .eql => P.underlying t = some .bool ∧ K (.c (.bool (x == y)))
    | .neq => P.underlying t = some .bool ∧ K (.c (.bool (x != y)))
    | _ => False
  | .agg xs, .agg ys =>
    match op with
    | .eql => eqArr P t = true ∧ (P.info? t).map (·.size) = some xs.length ∧ sameInts xs ys = true ∧ K (.c (.bool (intsEq xs ys)))
    | .neq => eqArr P t = true ∧ (P.info? t).map (·.size) = some xs.length ∧ sameInts xs ys = true ∧ K (.c (.bool (!intsEq xs ys)))
    | _ => False
  | _, _ => False

/-- The elements that an append is handed: how many and which cells. -/
def srcE (h : AHeap) (es : Nat) (x : AV) (K : Nat → List Cell → List (Nat × AObj) → Prop) : Prop :=
  match x with
  | .c .nils => K 0 [] []
  | .c (.slice k off len _) => ∃ ob, h.get k = .live ob ∧ off + len * es ≤ ob.cells.length ∧ K len ((ob.cells.drop off).take (len * es)) [(k, ob)]
  | _ => False

def appendE (P : Program) (t tx : TypeId) (s x : AV) (h : AHeap) (K : Kont) : Prop :=
  ∃ ti es eb ez ti' es' eb' ez', tyOf P t = some ti ∧ ti.kind = .slice es eb ez ∧ tyOf P tx = some ti' ∧ ti'.kind = .slice es' eb' ez' ∧ ez.length = es ∧
    srcE h es x fun m news rs =>
      match s with
      | .c .nils => m * eb ≤ 70368744177664 ∧ m ≤ 70368744177664 ∧ K (.c (.slice h.nxt 0 m es)) rs [(h.nxt, .live ⟨news, true⟩)]
      | .c (.slice k off len es2) => es2 = es ∧ (len + m) * eb ≤ 70368744177664 ∧ len + m ≤ 70368744177664 ∧
          ∃ ob, h.get k = .live ob ∧ ob.own = true ∧ off + len * es ≤ ob.cells.length ∧
            K (.c (.slice h.nxt 0 (len + m) es)) ((k, ob) :: rs) [(k, .dead), (h.nxt, .live ⟨(ob.cells.drop off).take (len * es) ++ news, true⟩)]
      | _ => False

def sliceE (P : Program) (t : TypeId) (x : AV) (lo hi mx : Option AV) (h : AHeap) (K : Kont) : Prop :=
  ∃ ti, tyOf P t = some ti ∧
  match ti.kind, x, mx with
  | .slice es _ _, .c (.slice k off len es2), none => es2 = es ∧
    ∃ kl kh l r, lo.getD (.c (.int .i64 0)) = .c (.int kl l) ∧ hi.getD (.c (.int .i64 len)) = .c (.int kh r) ∧ 0 ≤ l ∧ l ≤ r ∧ r ≤ len ∧
      K (.c (.slice k (off + l.toNat * es) (r - l).toNat es)) [] []
  | .slice _ _ _, .c .nils, none =>
    ∃ kl kh, lo.getD (.c (.int .i64 0)) = .c (.int kl 0) ∧ hi.getD (.c (.int .i64 0)) = .c (.int kh 0) ∧ K (.c .nils) [] []
  | .slice es _ _, .c (.slice _ _ _ es2), some (.c (.int _ 0)) => es2 = es ∧ lo.getD (.c (.int .i64 0)) = .c (.int .i64 0) ∧ hi = some (.c (.int .i64 0)) ∧
      K (.c (.slice h.nxt 0 0 es)) [] [(h.nxt, .live ⟨[], true⟩)]
  | .slice _ _ _, .c .nils, some (.c (.int _ 0)) => lo.getD (.c (.int .i64 0)) = .c (.int .i64 0) ∧ hi = some (.c (.int .i64 0)) ∧ K (.c .nils) [] []
  | .array n es _, .c (.ptr k off), none => lo = none ∧ hi = none ∧ ∃ ob, h.get k = .live ob ∧ off + n * es ≤ ob.cells.length ∧ 0 < n * es ∧ K (.c (.slice k off n es)) [(k, ob)] []
  | _, _, _ => False

def opE (P : Program) (o : Op) (ρ : Operand → AV) (h : AHeap) (K : Kont) : Prop :=
  match o with
  | .move x => K (ρ x) [] []
  | .assign x => K (ρ x) [] []
  | .pick c a b => ∃ t, ρ c = .c (.bool t) ∧ (t = true → K (ρ a) [] []) ∧ (t = false → K (ρ b) [] [])
  | .alloc e => ∃ ti, tyOf P e = some ti ∧ K (.c (.ptr h.nxt 0)) [] [(h.nxt, .live ⟨ti.zero, true⟩)]
  | .box _ x => ∃ cs, (ρ x).cells = some cs ∧ K (.c (.ptr h.nxt 0)) [] [(h.nxt, .live ⟨cs, true⟩)]
  | .build t parts => ∃ ti cs, tyOf P t = some ti ∧ isPlace ti.kind = true ∧ fillC (placeOf ti.kind) ti.zero (parts.toList.map fun p => (p.1, ρ p.2)) = some cs ∧ K (.agg cs) [] []
  | .buildSlice t len parts => ∃ ti es eb ez cs, tyOf P t = some ti ∧ ti.kind = .slice es eb ez ∧ ez.length = es ∧ len * es ≤ 16777216 ∧
      fillC (fun i => some (i * es, es)) (List.replicate len ez).flatten (parts.toList.map fun p => (p.1, ρ p.2)) = some cs ∧ K (.c (.slice h.nxt 0 len es)) [] [(h.nxt, .live ⟨cs, true⟩)]
  | .load t a => ∃ ti k off ob, tyOf P t = some ti ∧ ρ a = .c (.ptr k off) ∧ h.get k = .live ob ∧
      (if ti.agg then off + ti.size ≤ ob.cells.length ∧ K (.agg ((ob.cells.drop off).take ti.size)) [(k, ob)] [] else ∃ c, ob.cells[off]? = some c ∧ K (.c c) [(k, ob)] [])
  | .store t a x => ∃ ti k off ob cs, tyOf P t = some ti ∧ ρ a = .c (.ptr k off) ∧ h.get k = .live ob ∧ ob.own = true ∧ (ρ x).cells = some cs ∧ cs.length = ti.size ∧ off + cs.length ≤ ob.cells.length ∧
      K .any [(k, ob)] [(k, .live ⟨splice ob.cells off cs, true⟩)]
  | .binOp op t x y _ => binE P op t (ρ x) (ρ y) fun v => K v [] []
  | .unOp .not _ x => ∃ b, ρ x = .c (.bool b) ∧ K (.c (.bool !b)) [] []
  | .unOp .neg _ x => ∃ k n, ρ x = .c (.int k n) ∧ K (.c (.int k (k.wrap (0 - n)))) [] []
  | .convert src dst x => ∃ ti ti' k k' n, tyOf P src = some ti' ∧ tyOf P dst = some ti ∧ ti.kind = .int k ∧ ρ x = .c (.int k' n) ∧ K (.c (.int k (k.wrap n))) [] []
  | .makeFunc (.func f) first captured => first = #[] ∧ ∃ ps, ptrs (captured.toList.map ρ) = some ps ∧ K (.c (.fn f ps)) [] []
  | .makeSlice t l c => ∃ ti es eb ez kl kc m n, tyOf P t = some ti ∧ ti.kind = .slice es eb ez ∧ ez.length = es ∧ ρ l = .c (.int kl m) ∧ ρ c = .c (.int kc n) ∧ 0 ≤ m ∧ m ≤ n ∧ n * eb ≤ 70368744177664 ∧ n ≤ 70368744177664 ∧
      K (.c (.slice h.nxt 0 m.toNat es)) [] [(h.nxt, .live ⟨(List.replicate n.toNat ez).flatten, true⟩)]
  | .slice t x lo hi mx => sliceE P t (ρ x) (lo.map ρ) (hi.map ρ) (mx.map ρ) h K
  | .fieldAddr s x f => ∃ ti fs off' sz k off, tyOf P s = some ti ∧ ti.kind = .struct fs ∧ fs[f]? = some (off', sz) ∧ sz ≠ 0 ∧ ρ x = .c (.ptr k off) ∧ K (.c (.ptr k (off + off'))) [] []
  | .indexAddr t x ix => ∃ ti ki i, tyOf P t = some ti ∧ ρ ix = .c (.int ki i) ∧
      match ti.kind, ρ x with
      | .array n es _, .c (.ptr k off) => 0 ≤ i ∧ i < n ∧ K (.c (.ptr k (off + i.toNat * es))) [] []
      | .slice es _ _, .c (.slice k off len es2) => es2 = es ∧ 0 ≤ i ∧ i < len ∧ K (.c (.ptr k (off + i.toNat * es))) [] []
      | _, _ => False
  | .index t x ix => ∃ ti ki i n es ea cs, tyOf P t = some ti ∧ ti.kind = .array n es ea ∧ ρ x = .agg cs ∧ ρ ix = .c (.int ki i) ∧ 0 ≤ i ∧ i < n ∧
      (if ea then i.toNat * es + es ≤ cs.length ∧ K (.agg ((cs.drop (i.toNat * es)).take es)) [] [] else ∃ c, cs[i.toNat * es]? = some c ∧ K (.c c) [] [])
  | .extract x i => ∃ vs v, ρ x = .tup vs ∧ vs[i]? = some v ∧ K v [] []
  | .call c =>
    match c.callee with
    | .value f => ∃ g caps, ρ f = .c (.fn g caps) ∧ callE P g (c.args.toList.map ρ ++ caps.map fun p => .c (.ptr p.1 p.2)) h K
    | .builtin .len => ∃ t x ti, c.argTypes = #[t] ∧ c.args = #[x] ∧ tyOf P t = some ti ∧
        match ti.kind, ρ x with
        | .slice _ _ _, .c (.slice _ _ len _) => K (.c (.int .i64 len)) [] []
        | .slice _ _ _, .c .nils => K (.c (.int .i64 0)) [] []
        | .array n _ _, _ => K (.c (.int .i64 n)) [] []
        | .str, .c (.str s) => K (.c (.int .i64 s.size)) [] []
        | _, _ => False
    | .builtin .append => ∃ t tx s x, c.argTypes = #[t, tx] ∧ c.args = #[s, x] ∧ appendE P t tx (ρ s) (ρ x) h K
    | .builtin .max => ∃ x y k m n, c.args = #[x, y] ∧ ρ x = .c (.int k m) ∧ ρ y = .c (.int k n) ∧ K (.c (.int k (if n > m then n else m))) [] []
    | .builtin .min => ∃ x y k m n, c.args = #[x, y] ∧ ρ x = .c (.int k m) ∧ ρ y = .c (.int k n) ∧ K (.c (.int k (if n < m then n else m))) [] []
    | _ => False
  | _ => False

/-- What is to be shown of each operation. -/
def Snd (P : Program) (o : Oper) (ρ : Operand → AV) (h : AHeap) (K : Kont) : Prop :=
  ∃ val reads writes, OpS P o ρ val reads writes ∧ (∀ p ∈ reads, h.get p.1 = .live p.2) ∧ (∀ p ∈ writes, (∃ ob, (p.1, ob) ∈ reads) ∨ h.get p.1 = .free) ∧ K val reads writes

theorem Snd.pure {P : Program} {o : Oper} {ρ : Operand → AV} {h : AHeap} {K : Kont} {val : AV} (hk : K val [] [])
    (hs : ∀ (μ : LMap) (w : World) (a : Act), (∀ x ∈ o.op.operands, RepV μ (ρ x) (a.eval x)) → ∃ v, (execOp a.eval o).run P w = .ok (.value v) w ∧ RepV μ val v) : Snd P o ρ h K :=
  ⟨val, [], [], OpS.pure hs, by simp, by simp, hk⟩

section
variable {P : Program} {o : Oper} {ρ : Operand → AV} {h : AHeap} {K : Kont}

theorem snd_move {x : Operand} (ho : o.op = .move x ∨ o.op = .assign x) (hk : K (ρ x) [] []) : Snd P o ρ h K := by
  refine Snd.pure hk fun μ w a hops => ?_
  rcases ho with ho | ho <;> exact ⟨a.eval x, by simp [execOp, ho], hops x (by simp [ho, Op.operands])⟩

theorem snd_pick {c a b : Operand} (ho : o.op = .pick c a b) {t : Bool} (hc : ρ c = .c (.bool t)) (h1 : t = true → K (ρ a) [] []) (h2 : t = false → K (ρ b) [] []) : Snd P o ρ h K := by
  cases t with
  | true =>
    refine Snd.pure (h1 rfl) fun μ w ac hops => ?_
    have hv := hops c (by simp [ho, Op.operands])
    rw [hc] at hv
    have : ac.eval c = .bool true := hv.c_inv
    exact ⟨ac.eval a, by simp [execOp, ho, this, asBool], hops a (by simp [ho, Op.operands])⟩
  | false =>
    refine Snd.pure (h2 rfl) fun μ w ac hops => ?_
    have hv := hops c (by simp [ho, Op.operands])
    rw [hc] at hv
    have : ac.eval c = .bool false := hv.c_inv
    exact ⟨ac.eval b, by simp [execOp, ho, this, asBool], hops b (by simp [ho, Op.operands])⟩

/-- An operation that lays one new block. -/
theorem snd_new {val : AV} {cells : List Cell} (hk : K val [] [(h.nxt, .live ⟨cells, true⟩)])
    (hs : ∀ (μ : LMap) (w : World) (a : Act), (∀ x ∈ o.op.operands, RepV μ (ρ x) (a.eval x)) → ∃ v C elem, (execOp a.eval o).run P w = .ok (.value v) (w.alloc (.cells C elem)) ∧
      (∀ (j : Nat) (x : Cell), cells[j]? = some x → ∃ u, C[j]? = some u ∧ RepC μ x u) ∧ RepV (upd μ h.nxt (some ⟨w.heap.size, 0, C.size, true⟩)) val v) : Snd P o ρ h K := by
  refine ⟨val, [], [(h.nxt, .live ⟨cells, true⟩)], ?_, by simp, fun p hp => by simp at hp; subst hp; exact .inr h.get_nxt, hk⟩
  intro B μ G w a next Q hR _ _ hw hops hn
  have hfree : G h.nxt = .free := by
    rcases hw _ (List.mem_singleton.2 rfl) with ⟨ob, hob⟩ | hf
    · cases hob
    · exact hf
  obtain ⟨v, C, elem, hrun, hC, hv⟩ := hs μ w a hops
  refine wp_value hrun (hn v _ _ (LMap.le_upd (hR.free _ hfree)) hv (hR.alloc hfree C elem cells hC) ?_)
  exact (Below.refl _ _).alloc hR.size _

theorem snd_alloc {e : TypeId} (ho : o.op = .alloc e) {ti : TyI} (ht : tyOf P e = some ti) (hk : K (.c (.ptr h.nxt 0)) [] [(h.nxt, .live ⟨ti.zero, true⟩)]) : Snd P o ρ h K := by
  obtain ⟨i, d, z, hi, hd, hz, hzc, _⟩ := tyOf_spec ht
  refine snd_new hk fun μ w a _ => ⟨_, z.cells, e, ?_, fun j x hx => ?_, .c ⟨_, upd_same _ _ _, rfl⟩⟩
  · simp [execOp, ho, Instr.alloc, zeroValue, typeInfo, hi, hz, newVar, newRow]
  · simpa using (cellsOfL_rep hzc).get j x hx

theorem snd_box {t : TypeId} {x : Operand} (ho : o.op = .box t x) {cs : List Cell} (hc : (ρ x).cells = some cs) (hk : K (.c (.ptr h.nxt 0)) [] [(h.nxt, .live ⟨cs, true⟩)]) : Snd P o ρ h K := by
  refine snd_new hk fun μ w a hops => ?_
  have hv := hops x (by simp [ho, Op.operands])
  refine ⟨_, (a.eval x).cells, t, by simp [execOp, ho, Instr.box, newVar, newRow], fun j y hy => ?_, .c ⟨_, upd_same _ _ _, rfl⟩⟩
  simpa using (hv.cells_inv hc).get j y hy

theorem reps_of_obj {μ : LMap} {C : Array Value} {base : Nat} {cells : List Cell} (h3 : ∀ (j : Nat) (x : Cell), cells[j]? = some x → ∃ v, C[base + j]? = some v ∧ RepC μ x v) (off n : Nat) (hle : off + n ≤ cells.length) :
    RepCs μ ((cells.drop off).take n) ((C.toList.drop (base + off)).take n) ∧ ((C.toList.drop (base + off)).take n).length = n := by
  have hlen : base + off + n ≤ C.size ∨ n = 0 := by
    rcases Nat.eq_zero_or_pos n with h0 | hp
    · exact .inr h0
    · have : off + n - 1 < cells.length := by omega
      obtain ⟨v, hv, _⟩ := h3 (off + n - 1) cells[off + n - 1] (List.getElem?_eq_getElem this)
      have := (Array.getElem?_eq_some_iff.1 hv).1
      exact .inl (by omega)
  have hl : ((C.toList.drop (base + off)).take n).length = n := by
    rcases hlen with h | h
    · simp; omega
    · simp [h]
  refine ⟨RepCs.mk (by rw [hl]; simp; omega) fun j c hc => ?_, hl⟩
  simp only [List.getElem?_take, List.getElem?_drop] at hc ⊢
  split at hc
  · rename_i hj
    obtain ⟨v, hv, hr⟩ := h3 _ _ hc
    refine ⟨v, ?_, hr⟩
    simp only [hj, if_true]
    rw [← Nat.add_assoc] at hv
    simpa using hv
  · cases hc

theorem run_loadVar_obj {μ : LMap} {B : Nat} {G : Heap} {w : World} (hR : Rel B μ G w) {k off : Nat} {ob : AObj} (hk : G k = .live ob) {l : Loc} (hl : μ k = some l) {t : TypeId} {ti : TyI} (ht : tyOf P t = some ti) :
    if ti.agg then (off + ti.size ≤ ob.cells.length → ∃ vs : List Value, (loadVar t ⟨l.b, l.base + off, none⟩).run P w = .ok (.agg vs.toArray) w ∧ RepCs μ ((ob.cells.drop off).take ti.size) vs)
    else ∀ c, ob.cells[off]? = some c → ∃ v, (loadVar t ⟨l.b, l.base + off, none⟩).run P w = .ok v w ∧ RepC μ c v := by
  obtain ⟨i, d, z, hi, hd, hz, hzc, hsz, _, hagg, _⟩ := tyOf_spec ht
  obtain ⟨l', hl', hob⟩ := hR.obj k ob hk
  rw [hl] at hl'; cases hl'
  have hisAgg : (isAgg t).run P w = .ok ti.agg w := by
    rw [hagg]
    simp only [isAgg, Sem.run_bind, run_underlying hd, Result.andThen_ok]
    cases d <;> rfl
  cases hA : ti.agg with
  | true =>
    simp only [if_true]
    intro hle
    have hsize : (sizeOf t).run P w = .ok ti.size w := by simp [sizeOf, typeInfo, hi, hsz]
    cases hr : l.real with
    | false =>
      simp only [ObjAt, hr, Bool.false_eq_true, if_false] at hob
      rw [hob] at hle
      simp at hle
      refine ⟨[], ?_, by simp [hle.2, RepCs]⟩
      simp [loadVar, hisAgg, hA, hsize, hle.2, loadCells, loadCellsFrom]
    | true =>
      simp only [ObjAt, hr, if_true] at hob
      obtain ⟨C, elem, fz, h1, h2, h3, _⟩ := hob
      obtain ⟨hreps, hlen⟩ := reps_of_obj h3 off ti.size hle
      refine ⟨_, ?_, hreps⟩
      have hrun := run_loadCells_list (P := P) w ⟨l.b, l.base + off, none⟩ ((C.toList.drop (l.base + off)).take ti.size) (fun j v hv => by
        simp only [List.getElem?_take, List.getElem?_drop] at hv
        split at hv
        · rw [Addr.add_lit]
          simpa [World.cell?, h1] using hv
        · cases hv)
      rw [hlen] at hrun
      simp [loadVar, hisAgg, hA, hsize, hrun]
  | false =>
    simp only [Bool.false_eq_true, if_false]
    intro c hc
    have hreal : l.real = true := by
      cases hr : l.real with
      | true => rfl
      | false =>
        simp only [ObjAt, hr, Bool.false_eq_true, if_false] at hob
        rw [hob] at hc; simp at hc
    simp only [ObjAt, hreal, if_true] at hob
    obtain ⟨C, elem, fz, h1, h2, h3, _⟩ := hob
    obtain ⟨v, hv, hrep⟩ := h3 off c hc
    refine ⟨v, ?_, hrep⟩
    have hcell : w.cell? ⟨l.b, l.base + off, none⟩ = some v := by simp [World.cell?, h1, hv]
    simp [loadVar, hisAgg, hA, hcell]

theorem snd_load {t : TypeId} {x : Operand} (ho : o.op = .load t x) {ti : TyI} (ht : tyOf P t = some ti) {k off : Nat} (hx : ρ x = .c (.ptr k off)) {ob : AObj} (hk : h.get k = .live ob) {val : AV}
    (hval : if ti.agg then off + ti.size ≤ ob.cells.length ∧ val = .agg ((ob.cells.drop off).take ti.size) else ∃ c, ob.cells[off]? = some c ∧ val = .c c) (hK : K val [(k, ob)] []) : Snd P o ρ h K := by
  refine ⟨val, [(k, ob)], [], ?_, fun p hp => by simp at hp; subst hp; exact hk, by simp, hK⟩
  intro B μ G w a next Q hR _ hreads _ hops hn
  have hG := hreads (k, ob) (by simp)
  have hv := hops x (by simp [ho, Op.operands])
  rw [hx] at hv
  obtain ⟨l, hl, he⟩ := hv.c_inv
  have hrun := run_loadVar_obj hR hG hl (off := off) ht
  have hex : execOp a.eval o = (do pure (Next.value (← Instr.loadAt t (a.eval x)))) := by simp [execOp, ho]
  have hat : (Instr.loadAt t (a.eval x)).run P w = (loadVar t ⟨l.b, l.base + off, none⟩).run P w := by
    rw [he]; simp [Instr.loadAt, Instr.sureAddr]
  cases hA : ti.agg with
  | true =>
    rw [hA] at hval hrun
    simp only [if_true] at hval hrun
    obtain ⟨vs, h1, h2⟩ := hrun hval.1
    refine wp_value (v := .agg vs.toArray) (by rw [hex]; simp [hat, h1]) (hn _ μ w (LMap.le_refl _) ?_ hR (Below.refl _ _))
    rw [hval.2]; exact .agg h2
  | false =>
    rw [hA] at hval hrun
    simp only [Bool.false_eq_true, if_false] at hval hrun
    obtain ⟨c, hc, hv'⟩ := hval
    obtain ⟨v, h1, h2⟩ := hrun c hc
    refine wp_value (v := v) (by rw [hex]; simp [hat, h1]) (hn _ μ w (LMap.le_refl _) ?_ hR (Below.refl _ _))
    rw [hv']; exact .c h2

/-- New contents of a block, a part of it overwritten. -/
theorem reps_splice {μ : LMap} {C : Array Value} {base : Nat} {cells : List Cell} (h3 : ∀ (j : Nat) (x : Cell), cells[j]? = some x → ∃ v, C[base + j]? = some v ∧ RepC μ x v) {off : Nat} {cs : List Cell} {vs : List Value} (hrep : RepCs μ cs vs)
    (hle : off + cs.length ≤ cells.length) (hC : base + off + cs.length ≤ C.size) : ∀ (j : Nat) (x : Cell), (splice cells off cs)[j]? = some x →
    ∃ v, ((C.toList.take (base + off) ++ vs ++ C.toList.drop (base + off + vs.length)).toArray)[base + j]? = some v ∧ RepC μ x v := by
  intro j x hx
  have hl := hrep.length
  simp only [List.getElem?_toArray]
  simp only [splice, List.append_assoc] at hx ⊢
  rw [List.getElem?_append] at hx
  have ht : (cells.take off).length = off := by simp; omega
  have ht' : (C.toList.take (base + off)).length = base + off := by simp; omega
  rw [ht] at hx
  rw [List.getElem?_append, ht']
  split at hx
  · rename_i hj
    rw [List.getElem?_take, if_pos hj] at hx
    rw [if_pos (by omega), List.getElem?_take, if_pos (by omega)]
    obtain ⟨v, hv, hr⟩ := h3 j x hx
    exact ⟨v, by simpa using hv, hr⟩
  · rename_i hj
    rw [if_neg (by omega)]
    rw [List.getElem?_append] at hx ⊢
    rw [show base + j - (base + off) = j - off from by omega, ← hl]
    split at hx
    · rename_i hj2
      rw [if_pos hj2]
      exact hrep.get _ _ hx
    · rename_i hj2
      rw [if_neg hj2]
      rw [List.getElem?_drop] at hx ⊢
      rw [show off + cs.length + (j - off - cs.length) = j from by omega] at hx
      obtain ⟨v, hv, hr⟩ := h3 j x hx
      rw [show base + off + cs.length + (j - off - cs.length) = base + j from by omega]
      exact ⟨v, by simpa using hv, hr⟩

theorem snd_store {t : TypeId} {x y : Operand} (ho : o.op = .store t x y) {ti : TyI} (ht : tyOf P t = some ti) {k off : Nat} (hx : ρ x = .c (.ptr k off)) {ob : AObj} (hk : h.get k = .live ob) (hown : ob.own = true)
    {cs : List Cell} (hc : (ρ y).cells = some cs) (hl : cs.length = ti.size) (hle : off + cs.length ≤ ob.cells.length) (hK : K .any [(k, ob)] [(k, .live ⟨splice ob.cells off cs, true⟩)]) : Snd P o ρ h K := by
  refine ⟨.any, [(k, ob)], [(k, .live ⟨splice ob.cells off cs, true⟩)], ?_, fun p hp => by simp at hp; subst hp; exact hk, fun p hp => by simp at hp; subst hp; exact .inl ⟨ob, by simp⟩, hK⟩
  intro B μ G w a next Q hR _ hreads _ hops hn
  have hG := hreads (k, ob) (by simp)
  have hv := hops x (by simp [ho, Op.operands])
  rw [hx] at hv
  obtain ⟨l, hl2, he⟩ := hv.c_inv
  have hy := (hops y (by simp [ho, Op.operands])).cells_inv hc
  obtain ⟨i, d, z, hi, hd, hz, hzc, hsz, _, hagg, _⟩ := tyOf_spec ht
  obtain ⟨l', hl', hob⟩ := hR.obj k ob hG
  simp only at hl2
  rw [hl2] at hl'; cases hl'
  have hvl := hy.length
  have hsize : (sizeOf t).run P w = .ok (a.eval y).cells.toList.length w := by simp [sizeOf, typeInfo, hi, ← hvl, hl, hsz]
  have hex : execOp a.eval o = (do Instr.storeAt t (a.eval x) (a.eval y); pure .skip) := by simp [execOp, ho]
  have hat : (Instr.storeAt t (a.eval x) (a.eval y)).run P w = (storeCells ⟨l.b, l.base + off, none⟩ (a.eval y).cells.toList).run P w := by
    rw [he]; simp at hsize; simp [Instr.storeAt, Instr.sureAddr, storeVar, hsize]
  cases hr : l.real with
  | false =>
    have hob' := hob
    simp only [ObjAt, hr, Bool.false_eq_true, if_false] at hob'
    have hcs0 : cs = [] := by
      rw [hob'] at hle; simp at hle
      exact hle.2
    have hvs0 : (a.eval y).cells.toList = [] := by
      have := hvl; rw [hcs0] at this; simpa using this.symm
    rw [hvs0] at hat
    refine wp_skip' (w' := w) (by rw [hex]; simp [hat, storeCells]) (hn undef μ w (LMap.le_refl _) .any ?_ (Below.refl _ _))
    have e : putsG G [(k, .live ⟨splice ob.cells off cs, true⟩)] = G := by
      funext j
      show upd G k _ j = G j
      by_cases ej : j = k
      · subst ej
        rw [upd_same, hG, hcs0, hob']
        simp [splice]
        cases ob; simp_all
      · rw [upd_ne _ _ ej]
    rw [e]; exact hR
  | true =>
    simp only [ObjAt, hr, hown, if_true] at hob
    obtain ⟨C, elem, fz, h1, h2, h3, rfl, h5⟩ := hob
    have hC : l.base + off + cs.length ≤ C.size ∨ cs = [] := by
      rcases Nat.eq_zero_or_pos cs.length with h0 | hp
      · exact .inr (List.length_eq_zero_iff.1 h0)
      · have : off + cs.length - 1 < ob.cells.length := by omega
        obtain ⟨v, hv, _⟩ := h3 (off + cs.length - 1) ob.cells[off + cs.length - 1] (List.getElem?_eq_getElem this)
        have := (Array.getElem?_eq_some_iff.1 hv).1
        exact .inl (by omega)
    rcases hC with hC | hcs0
    · have hst := run_storeCells_at P l.b (l.base + off) elem (a.eval y).cells.toList 0 C w h1 (by rw [← hvl]; simpa using hC) hy.oneCell
      refine wp_skip' (w' := _) (by rw [hex]; simp only [Sem.run_bind, hat, hst, Result.andThen_ok, Sem.run_pure]; rfl) (hn undef μ _ (LMap.le_refl _) .any ?_ ?_)
      · refine hR.write hG hown hl2 hr _ ?_ _ ?_
        · simp [← h2]; simp at hvl; omega
        · simpa using reps_splice h3 hy hle hC
      · refine ⟨rfl, rfl, rfl, by simp, fun j hj => setRow_other w _ _ _ (by omega)⟩
    · have hvs0 : (a.eval y).cells.toList = [] := by
        have := hvl; rw [hcs0] at this; simpa using this.symm
      rw [hvs0] at hat
      refine wp_skip' (w' := w) (by rw [hex]; simp [hat, storeCells]) (hn undef μ w (LMap.le_refl _) .any ?_ (Below.refl _ _))
      have e : putsG G [(k, .live ⟨splice ob.cells off cs, true⟩)] = G := by
        funext j
        show upd G k _ j = G j
        by_cases ej : j = k
        · subst ej
          rw [upd_same, hG, hcs0]
          simp [splice]
          cases ob; simp_all
        · rw [upd_ne _ _ ej]
      rw [e]; exact hR
end
end Go.Abs
