/- The conditions, step by step: rules by which simp works a region's condition out. -/
import Derived.Test.YtgkknajopejleaaAbsL
namespace Go.Abs
open Go.RowKit (Below)
universe u

/-- What simp does not look into: a continuation. -/
inductive Fix {α : Sort u} : α → Type u
  | mk (a : α) : Fix a

def withTy (P : Program) (t : TypeId) {F : TyI → Prop} (_ : Fix F) : Prop := ∃ ti, tyOf P t = some ti ∧ F ti
def withPtr (v : AV) {F : Nat → Nat → Prop} (_ : Fix F) : Prop := ∃ k off, v = .c (.ptr k off) ∧ F k off
def withSlot (s : Slot) {F : AObj → Prop} (_ : Fix F) : Prop := ∃ ob, s = .live ob ∧ F ob
def withCells (v : AV) {F : List Cell → Prop} (_ : Fix F) : Prop := ∃ cs, v.cells = some cs ∧ F cs
def withCell (cs : List Cell) (off : Nat) {F : Cell → Prop} (_ : Fix F) : Prop := ∃ c, cs[off]? = some c ∧ F c
def withBool (v : AV) {F : Bool → Prop} (_ : Fix F) : Prop := ∃ b, v = .c (.bool b) ∧ F b
def withInt (v : AV) {F : IntKind → Int → Prop} (_ : Fix F) : Prop := ∃ k n, v = .c (.int k n) ∧ F k n
def withAgg (v : AV) {F : List Cell → Prop} (_ : Fix F) : Prop := ∃ cs, v = .agg cs ∧ F cs
def withTup (v : AV) {F : List AV → Prop} (_ : Fix F) : Prop := ∃ vs, v = .tup vs ∧ F vs
def withFn (v : AV) {F : FuncId → List (Nat × Nat) → Prop} (_ : Fix F) : Prop := ∃ f ps, v = .c (.fn f ps) ∧ F f ps
def withO {α : Type} (o : Option α) {F : α → Prop} (_ : Fix F) : Prop := ∃ x, o = some x ∧ F x
def must (p : Prop) {X : Prop} (_ : Fix X) : Prop := p ∧ X
def onB (b want : Bool) {X Y : Prop} (_ : Fix X) (_ : Fix Y) : Prop := (b = want → X) ∧ (b = (!want) → Y)
/-- A guard: a truth value, or nothing where its own operation was passed over. -/
def vGuard (v : AV) (want : Bool) {X Y Z : Prop} (_ : Fix X) (_ : Fix Y) (_ : Fix Z) : Prop := (∃ b, v = .c (.bool b) ∧ (b = want → X) ∧ (b = (!want) → Y)) ∨ (v = .tup [] ∧ Z)
def ifB (b : Bool) {X Y : Prop} (_ : Fix X) (_ : Fix Y) : Prop := if b then X else Y
def wr (k : IntKind) (n : Int) : Int := k.wrap n
def asSlice (k : TyK) {F : Nat → Nat → List Cell → Prop} (_ : Fix F) : Prop := ∃ es eb ez, k = .slice es eb ez ∧ F es eb ez
def asInt (k : TyK) {F : IntKind → Prop} (_ : Fix F) : Prop := ∃ ik, k = .int ik ∧ F ik
def asStruct (k : TyK) {F : List (Nat × Nat) → Prop} (_ : Fix F) : Prop := ∃ fs, k = .struct fs ∧ F fs
def asArr (k : TyK) {F : Nat → Nat → Bool → Prop} (_ : Fix F) : Prop := ∃ n es ea, k = .array n es ea ∧ F n es ea

def vOps (P : Program) (i : Nat) {l : List SOp} (_ : Fix l) (T : List AV) (h : AHeap) (F : Foot) {K : List AV → AHeap → Foot → Prop} (_ : Fix K) : Prop := opsV P i l T h F K
def vOp (P : Program) {op : Op} (_ : Fix op) (ρ : Operand → AV) (h : AHeap) {K : Kont} (_ : Fix K) : Prop := opE P op ρ h K
def vFill (place : Nat → Option (Nat × Nat)) (cells : List Cell) (l : List (Nat × AV)) {F : List Cell → Prop} (_ : Fix F) : Prop := ∃ cs, fillC place cells l = some cs ∧ F cs
@[go_sem] theorem vFill_nil {place : Nat → Option (Nat × Nat)} {cells : List Cell} {F : List Cell → Prop} : vFill place cells [] (.mk F) = F cells := by simp [vFill, fillC]
@[go_sem] theorem vFill_cons {place : Nat → Option (Nat × Nat)} {cells : List Cell} {i : Nat} {v : AV} {rest : List (Nat × AV)} {F : List Cell → Prop} :
    vFill place cells ((i, v) :: rest) (.mk F) = withO (place i) (.mk fun q => withCells v (.mk fun vs => must (vs.length = q.2 ∧ q.1 + vs.length ≤ cells.length) (.mk (vFill place (splice cells q.1 vs) rest (.mk F))))) := by
  apply propext
  simp only [vFill, fillC, withO, withCells, must]
  constructor
  · rintro ⟨cs, h1, h2⟩
    split at h1
    · rename_i off size vs hp hv
      split at h1
      · rename_i hc; exact ⟨(off, size), hp, vs, hv, hc, cs, h1, h2⟩
      · cases h1
    · cases h1
  · rintro ⟨⟨off, size⟩, hp, vs, hv, hc, cs, h1, h2⟩
    refine ⟨cs, ?_, h2⟩
    rw [hp, hv]
    simp only
    rw [if_pos hc]; exact h1
def vBin (P : Program) (op : BinOp) (t : TypeId) (a b : AV) {K : AV → Prop} (_ : Fix K) : Prop := binE P op t a b K
def vCall (P : Program) (f : FuncId) (args : List AV) (h : AHeap) {K : Kont} (_ : Fix K) : Prop := callE P f args h K
def vAppend (P : Program) (t tx : TypeId) (s x : AV) (h : AHeap) {K : Kont} (_ : Fix K) : Prop := appendE P t tx s x h K
def vSlice (P : Program) (t : TypeId) (x : AV) (lo hi mx : Option AV) (h : AHeap) {K : Kont} (_ : Fix K) : Prop := sliceE P t x lo hi mx h K

@[go_sem] theorem withPtr_eq {k off : Nat} {F : Nat → Nat → Prop} : withPtr (.c (.ptr k off)) (.mk F) = F k off := by
  apply propext; constructor
  · rintro ⟨_, _, h, h'⟩; cases h; exact h'
  · exact fun h => ⟨_, _, rfl, h⟩
@[go_sem] theorem withSlot_eq {ob : AObj} {F : AObj → Prop} : withSlot (.live ob) (.mk F) = F ob := by simp [withSlot]
@[go_sem] theorem withCells_c {c : Cell} {F : List Cell → Prop} : withCells (.c c) (.mk F) = F [c] := by simp [withCells, AV.cells]
@[go_sem] theorem withCells_agg {cs : List Cell} {F : List Cell → Prop} : withCells (.agg cs) (.mk F) = F cs := by simp [withCells, AV.cells]
@[go_sem] theorem withCell_zero {c : Cell} {cs : List Cell} {F : Cell → Prop} : withCell (c :: cs) 0 (.mk F) = F c := by simp [withCell]
@[go_sem] theorem withCell_succ {c : Cell} {cs : List Cell} {n : Nat} {F : Cell → Prop} : withCell (c :: cs) (n + 1) (.mk F) = withCell cs n (.mk F) := by simp [withCell]
theorem withCell_eq {cs : List Cell} {n : Nat} {F : Cell → Prop} {c : Cell} (h : cs[n]? = some c) : withCell cs n (.mk F) = F c := by simp [withCell, h]
@[go_sem] theorem vGuard_bool {b want : Bool} {X Y Z : Prop} : vGuard (.c (.bool b)) want (.mk X) (.mk Y) (.mk Z) = onB b want (.mk X) (.mk Y) := by simp [vGuard, onB]
@[go_sem] theorem vGuard_none {want : Bool} {X Y Z : Prop} : vGuard (.tup []) want (.mk X) (.mk Y) (.mk Z) = Z := by simp [vGuard]
@[go_sem] theorem withBool_eq {b : Bool} {F : Bool → Prop} : withBool (.c (.bool b)) (.mk F) = F b := by simp [withBool]
@[go_sem] theorem withInt_eq {k : IntKind} {n : Int} {F : IntKind → Int → Prop} : withInt (.c (.int k n)) (.mk F) = F k n := by
  apply propext; constructor
  · rintro ⟨_, _, h, h'⟩; cases h; exact h'
  · exact fun h => ⟨_, _, rfl, h⟩
@[go_sem] theorem withAgg_eq {cs : List Cell} {F : List Cell → Prop} : withAgg (.agg cs) (.mk F) = F cs := by simp [withAgg]
@[go_sem] theorem withTup_eq {vs : List AV} {F : List AV → Prop} : withTup (.tup vs) (.mk F) = F vs := by simp [withTup]
@[go_sem] theorem withFn_eq {f : FuncId} {ps : List (Nat × Nat)} {F : FuncId → List (Nat × Nat) → Prop} : withFn (.c (.fn f ps)) (.mk F) = F f ps := by
  apply propext; constructor
  · rintro ⟨_, _, h, h'⟩; cases h; exact h'
  · exact fun h => ⟨_, _, rfl, h⟩
@[go_sem] theorem withO_eq {α : Type} {x : α} {F : α → Prop} : withO (some x) (.mk F) = F x := by simp [withO]
theorem withTy_eq {P : Program} {t : TypeId} {ti : TyI} (h : tyOf P t = some ti) (F : TyI → Prop) : withTy P t (.mk F) = F ti := by simp [withTy, h]
@[go_sem] theorem must_true {X : Prop} : must True (.mk X) = X := by simp [must]
@[go_sem] theorem must_of {p X : Prop} (h : p) : must p (.mk X) = X := by simp [must, h]
@[go_sem] theorem onB_tt {X Y : Prop} : onB true true (.mk X) (.mk Y) = X := by simp [onB]
@[go_sem] theorem onB_tf {X Y : Prop} : onB true false (.mk X) (.mk Y) = Y := by simp [onB]
@[go_sem] theorem onB_ft {X Y : Prop} : onB false true (.mk X) (.mk Y) = Y := by simp [onB]
@[go_sem] theorem onB_ff {X Y : Prop} : onB false false (.mk X) (.mk Y) = X := by simp [onB]
@[go_sem] theorem ifB_t {X Y : Prop} : ifB true (.mk X) (.mk Y) = X := by simp [ifB]
@[go_sem] theorem ifB_f {X Y : Prop} : ifB false (.mk X) (.mk Y) = Y := by simp [ifB]
theorem onB_intro {b want : Bool} {X Y : Prop} (h1 : b = want → X) (h2 : b = (!want) → Y) : onB b want (.mk X) (.mk Y) := ⟨h1, h2⟩
theorem must_intro {p X : Prop} (h1 : p) (h2 : X) : must p (.mk X) := ⟨h1, h2⟩
@[go_sem] theorem asSlice_eq {es eb : Nat} {ez : List Cell} {F : Nat → Nat → List Cell → Prop} : asSlice (.slice es eb ez) (.mk F) = F es eb ez := by
  apply propext; constructor
  · rintro ⟨_, _, _, h, h'⟩; cases h; exact h'
  · exact fun h => ⟨_, _, _, rfl, h⟩
@[go_sem] theorem asInt_eq {ik : IntKind} {F : IntKind → Prop} : asInt (.int ik) (.mk F) = F ik := by simp [asInt]
@[go_sem] theorem asStruct_eq {fs : List (Nat × Nat)} {F : List (Nat × Nat) → Prop} : asStruct (.struct fs) (.mk F) = F fs := by simp [asStruct]
@[go_sem] theorem asArr_eq {n es : Nat} {ea : Bool} {F : Nat → Nat → Bool → Prop} : asArr (.array n es ea) (.mk F) = F n es ea := by
  apply propext; constructor
  · rintro ⟨_, _, _, h, h'⟩; cases h; exact h'
  · exact fun h => ⟨_, _, _, rfl, h⟩

@[go_sem] theorem wr_i64 {n : Int} (h1 : -9223372036854775808 ≤ n) (h2 : n ≤ 9223372036854775807) : wr .i64 n = n := IntWalk.i64_in n ⟨h1, h2⟩
@[go_sem] theorem wr_u8 {n : Int} (h1 : 0 ≤ n) (h2 : n ≤ 255) : wr .u8 n = n := IntWalk.u8_in n ⟨h1, h2⟩

/-! ### Slots, heap -/
@[go_sem] theorem rd_zero {a : AV} {l : List AV} : rd (a :: l) 0 = a := rfl
@[go_sem] theorem rd_succ {a : AV} {l : List AV} {n : Nat} : rd (a :: l) (n + 1) = rd l n := rfl
attribute [go_sem] List.set_cons_zero List.set_cons_succ List.cons_append List.nil_append List.append_nil List.length_cons List.length_nil List.map_cons List.map_nil List.foldl_cons List.foldl_nil
@[go_sem] theorem ev_tmp {T : List AV} {t : Tmp} : ev T (.tmp t) = rd T t := rfl
@[go_sem] theorem ev_int {T : List AV} {k : IntKind} {n : Int} : ev T (.const (.int k n)) = .c (.int k n) := rfl
@[go_sem] theorem ev_bool {T : List AV} {b : Bool} : ev T (.const (.bool b)) = .c (.bool b) := rfl
@[go_sem] theorem ev_string {T : List AV} {b : ByteArray} : ev T (.const (.string b)) = .c (.str b) := rfl
@[go_sem] theorem ev_nils {T : List AV} : ev T (.const (.slice none 0 0)) = .c .nils := rfl
@[go_sem] theorem ev_nilf {T : List AV} : ev T (.const .nilFunc) = .c .nilf := rfl
@[go_sem] theorem ev_func {T : List AV} {f : FuncId} : ev T (.func f) = .c (.fn f []) := rfl
@[go_sem] theorem setT_some {T : List AV} {d : Tmp} {v : AV} : setT T (some d) v = T.set d v := rfl
@[go_sem] theorem setT_none {T : List AV} {v : AV} : setT T none v = T := rfl

def gd : List Slot → Nat → Slot
  | [], _ => .free
  | s :: _, 0 => s
  | _ :: l, n + 1 => gd l n
theorem gd_eq : ∀ (l : List Slot) (n : Nat), gd l n = l.getD n .free
  | [], _ => rfl
  | _ :: _, 0 => rfl
  | _ :: l, n + 1 => by simpa [gd] using gd_eq l n
attribute [go_sem] gd setAt
@[go_sem] theorem get_new {A : Heap} {N : Nat} {L : List Slot} {i : Nat} : (⟨A, N, L⟩ : AHeap).get (nid N i) = gd L i := by
  have h1 : ¬ nid N i < N := by unfold nid; omega
  have h2 : nid N i - N = i := by unfold nid; omega
  simp only [AHeap.get, h1, if_false, h2, gd_eq]
@[go_sem] theorem get_old {A : Heap} {N : Nat} {L : List Slot} {k : Nat} (h : k < N) : (⟨A, N, L⟩ : AHeap).get k = A k := by
  simp [AHeap.get, h]
@[go_sem] theorem put_new {A : Heap} {N : Nat} {L : List Slot} {i : Nat} {s : Slot} : (⟨A, N, L⟩ : AHeap).put (nid N i) s = ⟨A, N, setAt L i s⟩ := by
  have h1 : ¬ nid N i < N := by unfold nid; omega
  have h2 : nid N i - N = i := by unfold nid; omega
  simp only [AHeap.put, h1, if_false, h2]
@[go_sem] theorem put_old {A : Heap} {N : Nat} {L : List Slot} {k : Nat} {s : Slot} (h : k < N) : (⟨A, N, L⟩ : AHeap).put k s = ⟨upd A k s, N, L⟩ := by
  simp [AHeap.put, h]
@[go_sem] theorem puts_nil {h : AHeap} : h.puts [] = h := rfl
@[go_sem] theorem puts_cons {h : AHeap} {p : Nat × Slot} {l : List (Nat × Slot)} : h.puts (p :: l) = (h.put p.1 p.2).puts l := rfl
@[go_sem] theorem nxt_eq {A : Heap} {N : Nat} {L : List Slot} : (⟨A, N, L⟩ : AHeap).nxt = nid N L.length := rfl

@[go_sem] theorem consF_nil {i : Nat} {F : Foot} : consF i [] [] F = F := rfl
@[go_sem] theorem consF_r {i : Nat} {r : Nat × AObj} {rs : List (Nat × AObj)} {ws : List (Nat × Slot)} {F : Foot} : consF i (r :: rs) ws F = (i, r.1 :: rs.map (·.1), ws.map (·.1)) :: F := rfl
@[go_sem] theorem consF_w {i : Nat} {w : Nat × Slot} {ws : List (Nat × Slot)} {F : Foot} : consF i [] (w :: ws) F = (i, [], w.1 :: ws.map (·.1)) :: F := rfl

/-! ### The list of operations -/
section
variable {P : Program} {i : Nat} {T : List AV} {h : AHeap} {F : Foot} {K : List AV → AHeap → Foot → Prop}
@[go_sem] theorem vOps_nil : vOps P i (.mk []) T h F (.mk K) = K T h F := propext Iff.rfl
@[go_sem] theorem vOps_none {d : Option Tmp} {op : Op} {rest : List SOp} :
    vOps P i (.mk (⟨d, op, none⟩ :: rest)) T h F (.mk K) = vOp P (.mk op) (ev T) h (.mk fun v rs ws => vOps P (i + 1) (.mk rest) (setT T d v) (h.puts ws) (consF i rs ws F) (.mk K)) := propext Iff.rfl
@[go_sem] theorem vOps_some {d : Option Tmp} {op : Op} {g : Tmp} {want : Bool} {rest : List SOp} :
    vOps P i (.mk (⟨d, op, some (g, want)⟩ :: rest)) T h F (.mk K) = vGuard (rd T g) want
      (.mk (vOp P (.mk op) (ev (T.set g (.c (.bool want)))) h (.mk fun v rs ws => vOps P (i + 1) (.mk rest) (setT (T.set g (.c (.bool want))) d v) (h.puts ws) (consF i rs ws F) (.mk K))))
      (.mk (vOps P (i + 1) (.mk rest) (setT (T.set g (.c (.bool !want))) d (.tup [])) h F (.mk K)))
      (.mk (vOps P (i + 1) (.mk rest) (setT T d (.tup [])) h F (.mk K))) := propext Iff.rfl
end

/-! ### Each operation -/
section
variable {P : Program} {ρ : Operand → AV} {h : AHeap} {K : Kont}
@[go_sem] theorem opE_move {x : Operand} : vOp P (.mk (.move x)) ρ h (.mk K) = K (ρ x) [] [] := propext Iff.rfl
@[go_sem] theorem opE_assign {x : Operand} : vOp P (.mk (.assign x)) ρ h (.mk K) = K (ρ x) [] [] := propext Iff.rfl
@[go_sem] theorem opE_pick {c a b : Operand} : vOp P (.mk (.pick c a b)) ρ h (.mk K) = withBool (ρ c) (.mk fun t => onB t true (.mk (K (ρ a) [] [])) (.mk (K (ρ b) [] []))) := propext Iff.rfl
@[go_sem] theorem opE_alloc {e : TypeId} : vOp P (.mk (.alloc e)) ρ h (.mk K) = withTy P e (.mk fun ti => K (.c (.ptr h.nxt 0)) [] [(h.nxt, .live ⟨ti.zero, true⟩)]) := propext Iff.rfl
@[go_sem] theorem opE_box {e : TypeId} {x : Operand} : vOp P (.mk (.box e x)) ρ h (.mk K) = withCells (ρ x) (.mk fun cs => K (.c (.ptr h.nxt 0)) [] [(h.nxt, .live ⟨cs, true⟩)]) := propext Iff.rfl
@[go_sem] theorem opE_build {t : TypeId} {parts : Array (Nat × Operand)} : vOp P (.mk (.build t parts)) ρ h (.mk K) = withTy P t (.mk fun ti => must (isPlace ti.kind = true) (.mk (vFill (placeOf ti.kind) ti.zero (parts.toList.map fun p => (p.1, ρ p.2)) (.mk fun cs => K (.agg cs) [] [])))) := by
  apply propext; constructor
  · rintro ⟨ti, cs, h1, h2, h3, h4⟩; exact ⟨ti, h1, h2, cs, h3, h4⟩
  · rintro ⟨ti, h1, h2, cs, h3, h4⟩; exact ⟨ti, cs, h1, h2, h3, h4⟩
@[go_sem] theorem opE_buildSlice {t : TypeId} {len : Nat} {parts : Array (Nat × Operand)} : vOp P (.mk (.buildSlice t len parts)) ρ h (.mk K) = withTy P t (.mk fun ti => asSlice ti.kind (.mk fun es _ ez => must (ez.length = es) (.mk (must (len * es ≤ 16777216)
      (.mk (vFill (placeOf (.array len es true)) (List.replicate len ez).flatten (parts.toList.map fun p => (p.1, ρ p.2)) (.mk fun cs => K (.c (.slice h.nxt 0 len es)) [] [(h.nxt, .live ⟨cs, true⟩)]))))))) := by
  apply propext; constructor
  · rintro ⟨ti, es, eb, ez, cs, h1, h2, h3, h4, h5, h6⟩; exact ⟨ti, h1, es, eb, ez, h2, h3, h4, cs, h5, h6⟩
  · rintro ⟨ti, h1, es, eb, ez, h2, h3, h4, cs, h5, h6⟩; exact ⟨ti, es, eb, ez, cs, h1, h2, h3, h4, h5, h6⟩
def ldn (cs : List Cell) (off n : Nat) : List Cell := (cs.drop off).take n
@[go_sem] theorem opE_load {t : TypeId} {a : Operand} : vOp P (.mk (.load t a)) ρ h (.mk K) = withTy P t (.mk fun ti => withPtr (ρ a) (.mk fun k off => withSlot (h.get k) (.mk fun ob =>
      ifB ti.agg (.mk (must (off + ti.size ≤ ob.cells.length) (.mk (K (.agg (ldn ob.cells off ti.size)) [(k, ob)] [])))) (.mk (withCell ob.cells off (.mk fun c => K (.c c) [(k, ob)] [])))))) := by
  apply propext; constructor
  · rintro ⟨ti, k, off, ob, h1, h2, h3, h4⟩; exact ⟨ti, h1, k, off, h2, ob, h3, h4⟩
  · rintro ⟨ti, h1, k, off, h2, ob, h3, h4⟩; exact ⟨ti, k, off, ob, h1, h2, h3, h4⟩
@[go_sem] theorem opE_store {t : TypeId} {a x : Operand} : vOp P (.mk (.store t a x)) ρ h (.mk K) = withTy P t (.mk fun ti => withPtr (ρ a) (.mk fun k off => withSlot (h.get k) (.mk fun ob => must (ob.own = true) (.mk (withCells (ρ x) (.mk fun cs =>
      must (cs.length = ti.size) (.mk (must (off + cs.length ≤ ob.cells.length) (.mk (K .any [(k, ob)] [(k, .live ⟨splice ob.cells off cs, true⟩)])))))))))) := by
  apply propext; constructor
  · rintro ⟨ti, k, off, ob, cs, h1, h2, h3, h4, h5, h6, h7, h8⟩; exact ⟨ti, h1, k, off, h2, ob, h3, h4, cs, h5, h6, h7, h8⟩
  · rintro ⟨ti, h1, k, off, h2, ob, h3, h4, cs, h5, h6, h7, h8⟩; exact ⟨ti, k, off, ob, cs, h1, h2, h3, h4, h5, h6, h7, h8⟩
@[go_sem] theorem opE_bin {op : BinOp} {t t' : TypeId} {x y : Operand} : vOp P (.mk (.binOp op t x y t')) ρ h (.mk K) = vBin P op t (ρ x) (ρ y) (.mk fun v => K v [] []) := propext Iff.rfl
@[go_sem] theorem opE_not {t : TypeId} {x : Operand} : vOp P (.mk (.unOp .not t x)) ρ h (.mk K) = withBool (ρ x) (.mk fun b => K (.c (.bool !b)) [] []) := propext Iff.rfl
@[go_sem] theorem opE_neg {t : TypeId} {x : Operand} : vOp P (.mk (.unOp .neg t x)) ρ h (.mk K) = withInt (ρ x) (.mk fun k n => K (.c (.int k (wr k (0 - n)))) [] []) := propext Iff.rfl
@[go_sem] theorem opE_convert {s d : TypeId} {x : Operand} : vOp P (.mk (.convert s d x)) ρ h (.mk K) = withTy P s (.mk fun _ => withTy P d (.mk fun ti => asInt ti.kind (.mk fun k => withInt (ρ x) (.mk fun _ n => K (.c (.int k (wr k n))) [] [])))) := by
  apply propext; constructor
  · rintro ⟨ti, ti', k, k', n, h1, h2, h3, h4, h5⟩; exact ⟨ti', h1, ti, h2, k, h3, k', n, h4, h5⟩
  · rintro ⟨ti', h1, ti, h2, k, h3, k', n, h4, h5⟩; exact ⟨ti, ti', k, k', n, h1, h2, h3, h4, h5⟩
@[go_sem] theorem opE_makeFunc {f : FuncId} {captured : Array Operand} : vOp P (.mk (.makeFunc (.func f) #[] captured)) ρ h (.mk K) = withO (ptrs (captured.toList.map ρ)) (.mk fun ps => K (.c (.fn f ps)) [] []) := by simp [vOp, opE, withO]
@[go_sem] theorem opE_makeSlice {t : TypeId} {l c : Operand} : vOp P (.mk (.makeSlice t l c)) ρ h (.mk K) = withTy P t (.mk fun ti => asSlice ti.kind (.mk fun (es eb : Nat) (ez : List Cell) => must (ez.length = es) (.mk (withInt (ρ l) (.mk fun (_ : IntKind) (m : Int) => withInt (ρ c) (.mk fun (_ : IntKind) (n : Int) =>
      must (0 ≤ m) (.mk (must (m ≤ n) (.mk (must (n * (eb : Int) ≤ 70368744177664) (.mk (must (n ≤ 70368744177664) (.mk (K (.c (.slice h.nxt 0 m.toNat es)) [] [(h.nxt, .live ⟨(List.replicate n.toNat ez).flatten, true⟩)])))))))))))))) := by
  apply propext; constructor
  · rintro ⟨ti, es, eb, ez, kl, kc, m, n, h1, h2, h3, h4, h5, h6, h7, h8, h9, h10⟩; exact ⟨ti, h1, es, eb, ez, h2, h3, kl, m, h4, kc, n, h5, h6, h7, h8, h9, h10⟩
  · rintro ⟨ti, h1, es, eb, ez, h2, h3, kl, m, h4, kc, n, h5, h6, h7, h8, h9, h10⟩; exact ⟨ti, es, eb, ez, kl, kc, m, n, h1, h2, h3, h4, h5, h6, h7, h8, h9, h10⟩
@[go_sem] theorem opE_slice {t : TypeId} {x : Operand} {lo hi mx : Option Operand} : vOp P (.mk (.slice t x lo hi mx)) ρ h (.mk K) = vSlice P t (ρ x) (lo.map ρ) (hi.map ρ) (mx.map ρ) h (.mk K) := propext Iff.rfl
attribute [go_sem] List.getElem?_cons_zero List.getElem?_cons_succ
@[go_sem] theorem opE_fieldAddr {s : TypeId} {x : Operand} {f : Nat} : vOp P (.mk (.fieldAddr s x f)) ρ h (.mk K) = withTy P s (.mk fun ti => asStruct ti.kind (.mk fun fs => withO fs[f]? (.mk fun p => must (p.2 ≠ 0) (.mk (withPtr (ρ x) (.mk fun k off => K (.c (.ptr k (off + p.1))) [] [])))))) := by
  apply propext; constructor
  · rintro ⟨ti, fs, off', sz, k, off, h1, h2, h3, h4, h5, h6⟩; exact ⟨ti, h1, fs, h2, (off', sz), h3, h4, k, off, h5, h6⟩
  · rintro ⟨ti, h1, fs, h2, ⟨off', sz⟩, h3, h4, k, off, h5, h6⟩; exact ⟨ti, fs, off', sz, k, off, h1, h2, h3, h4, h5, h6⟩
def indexE (k : TyK) (v : AV) (i : Int) {K : Kont} (_ : Fix K) : Prop :=
  match k, v with
  | .array n es _, .c (.ptr k off) => 0 ≤ i ∧ i < n ∧ K (.c (.ptr k (off + i.toNat * es))) [] []
  | .slice es _ _, .c (.slice k off len es2) => es2 = es ∧ 0 ≤ i ∧ i < len ∧ K (.c (.ptr k (off + i.toNat * es))) [] []
  | _, _ => False
@[go_sem] theorem indexE_arr {n es k off : Nat} {ea : Bool} {i : Int} : indexE (.array n es ea) (.c (.ptr k off)) i (.mk K) = must (0 ≤ i) (.mk (must (i < n) (.mk (K (.c (.ptr k (off + i.toNat * es))) [] [])))) := propext Iff.rfl
@[go_sem] theorem indexE_sl {es eb k off len : Nat} {ez : List Cell} {i : Int} : indexE (.slice es eb ez) (.c (.slice k off len es)) i (.mk K) = must (0 ≤ i) (.mk (must (i < len) (.mk (K (.c (.ptr k (off + i.toNat * es))) [] [])))) := by simp [indexE, must]
@[go_sem] theorem opE_indexAddr {t : TypeId} {x ix : Operand} : vOp P (.mk (.indexAddr t x ix)) ρ h (.mk K) = withTy P t (.mk fun ti => withInt (ρ ix) (.mk fun _ i => indexE ti.kind (ρ x) i (.mk K))) := by
  apply propext; constructor
  · rintro ⟨ti, ki, i, h1, h2, h3⟩; exact ⟨ti, h1, ki, i, h2, h3⟩
  · rintro ⟨ti, h1, ki, i, h2, h3⟩; exact ⟨ti, ki, i, h1, h2, h3⟩
@[go_sem] theorem opE_index {t : TypeId} {x ix : Operand} : vOp P (.mk (.index t x ix)) ρ h (.mk K) = withTy P t (.mk fun ti => asArr ti.kind (.mk fun (n es : Nat) (ea : Bool) => withAgg (ρ x) (.mk fun (cs : List Cell) => withInt (ρ ix) (.mk fun (_ : IntKind) (i : Int) => must (0 ≤ i) (.mk (must (i < n)
      (.mk (ifB ea (.mk (must (i.toNat * es + es ≤ cs.length) (.mk (K (.agg (ldn cs (i.toNat * es) es)) [] [])))) (.mk (withCell cs (i.toNat * es) (.mk fun c => K (.c c) [] []))))))))))) := by
  apply propext; constructor
  · rintro ⟨ti, ki, i, n, es, ea, cs, h1, h2, h3, h4, h5, h6, h7⟩; exact ⟨ti, h1, n, es, ea, h2, cs, h3, ki, i, h4, h5, h6, h7⟩
  · rintro ⟨ti, h1, n, es, ea, h2, cs, h3, ki, i, h4, h5, h6, h7⟩; exact ⟨ti, ki, i, n, es, ea, cs, h1, h2, h3, h4, h5, h6, h7⟩
@[go_sem] theorem opE_extract {x : Operand} {i : Nat} : vOp P (.mk (.extract x i)) ρ h (.mk K) = withTup (ρ x) (.mk fun vs => withO vs[i]? (.mk fun v => K v [] [])) := by
  apply propext; constructor
  · rintro ⟨vs, v, h1, h2, h3⟩; exact ⟨vs, h1, v, h2, h3⟩
  · rintro ⟨vs, h1, v, h2, h3⟩; exact ⟨vs, v, h1, h2, h3⟩
@[go_sem] theorem opE_call {f : Operand} {args : Array Operand} {ats : Array TypeId} : vOp P (.mk (.call ⟨.value f, args, ats⟩)) ρ h (.mk K) = withFn (ρ f) (.mk fun g caps => vCall P g (args.toList.map ρ ++ caps.map fun p => .c (.ptr p.1 p.2)) h (.mk K)) := propext Iff.rfl
def lenE (k : TyK) (v : AV) {K : Kont} (_ : Fix K) : Prop :=
  match k, v with
  | .slice _ _ _, .c (.slice _ _ len _) => K (.c (.int .i64 len)) [] []
  | .slice _ _ _, .c .nils => K (.c (.int .i64 0)) [] []
  | .array n _ _, _ => K (.c (.int .i64 n)) [] []
  | .str, .c (.str s) => K (.c (.int .i64 s.size)) [] []
  | _, _ => False
@[go_sem] theorem lenE_sl {es eb k off len es2 : Nat} {ez : List Cell} : lenE (.slice es eb ez) (.c (.slice k off len es2)) (.mk K) = K (.c (.int .i64 len)) [] [] := propext Iff.rfl
@[go_sem] theorem lenE_nil {es eb : Nat} {ez : List Cell} : lenE (.slice es eb ez) (.c .nils) (.mk K) = K (.c (.int .i64 0)) [] [] := propext Iff.rfl
@[go_sem] theorem lenE_arr {n es : Nat} {ea : Bool} {v : AV} : lenE (.array n es ea) v (.mk K) = K (.c (.int .i64 n)) [] [] := by cases v <;> rfl
@[go_sem] theorem lenE_str {s : ByteArray} : lenE .str (.c (.str s)) (.mk K) = K (.c (.int .i64 s.size)) [] [] := propext Iff.rfl
@[go_sem] theorem opE_len {x : Operand} {t : TypeId} : vOp P (.mk (.call ⟨.builtin .len, #[x], #[t]⟩)) ρ h (.mk K) = withTy P t (.mk fun ti => lenE ti.kind (ρ x) (.mk K)) := by
  apply propext; constructor
  · rintro ⟨t', x', ti, h1, h2, h3, h4⟩
    simp at h1 h2; subst h1; subst h2
    exact ⟨ti, h3, h4⟩
  · rintro ⟨ti, h3, h4⟩; exact ⟨t, x, ti, rfl, rfl, h3, h4⟩
@[go_sem] theorem opE_append {s x : Operand} {t tx : TypeId} : vOp P (.mk (.call ⟨.builtin .append, #[s, x], #[t, tx]⟩)) ρ h (.mk K) = vAppend P t tx (ρ s) (ρ x) h (.mk K) := by
  apply propext; constructor
  · rintro ⟨t', tx', s', x', h1, h2, h3⟩
    simp at h1 h2; obtain ⟨rfl, rfl⟩ := h1; obtain ⟨rfl, rfl⟩ := h2
    exact h3
  · exact fun h3 => ⟨t, tx, s, x, rfl, rfl, h3⟩
@[go_sem] theorem opE_max {x y : Operand} {ts : Array TypeId} : vOp P (.mk (.call ⟨.builtin .max, #[x, y], ts⟩)) ρ h (.mk K) = withInt (ρ x) (.mk fun k m => withInt (ρ y) (.mk fun k' n => must (k' = k) (.mk (K (.c (.int k (if n > m then n else m))) [] [])))) := by
  apply propext; constructor
  · rintro ⟨x', y', k, m, n, h1, h2, h3, h4⟩
    simp at h1; obtain ⟨rfl, rfl⟩ := h1
    exact ⟨k, m, h2, k, n, h3, rfl, h4⟩
  · rintro ⟨k, m, h2, k', n, h3, rfl, h4⟩; exact ⟨x, y, _, m, n, rfl, h2, h3, h4⟩
@[go_sem] theorem opE_min {x y : Operand} {ts : Array TypeId} : vOp P (.mk (.call ⟨.builtin .min, #[x, y], ts⟩)) ρ h (.mk K) = withInt (ρ x) (.mk fun k m => withInt (ρ y) (.mk fun k' n => must (k' = k) (.mk (K (.c (.int k (if n < m then n else m))) [] [])))) := by
  apply propext; constructor
  · rintro ⟨x', y', k, m, n, h1, h2, h3, h4⟩
    simp at h1; obtain ⟨rfl, rfl⟩ := h1
    exact ⟨k, m, h2, k, n, h3, rfl, h4⟩
  · rintro ⟨k, m, h2, k', n, h3, rfl, h4⟩; exact ⟨x, y, _, m, n, rfl, h2, h3, h4⟩
@[go_sem] theorem appendE_sl {t tx : TypeId} {k off len es k2 off2 m es2 : Nat} : vAppend P t tx (.c (.slice k off len es)) (.c (.slice k2 off2 m es2)) h (.mk K) =
    withTy P t (.mk fun ti => asSlice ti.kind (.mk fun es' eb ez => withTy P tx (.mk fun tj => asSlice tj.kind (.mk fun _ _ _ => must (ez.length = es' ∧ es = es') (.mk (withSlot (h.get k2) (.mk fun ob2 => must (off2 + m * es' ≤ ob2.cells.length)
      (.mk (must ((len + m) * eb ≤ 70368744177664) (.mk (must (len + m ≤ 70368744177664) (.mk (withSlot (h.get k) (.mk fun ob => must (ob.own = true ∧ off + len * es' ≤ ob.cells.length)
        (.mk (K (.c (.slice h.nxt 0 (len + m) es')) [(k, ob), (k2, ob2)] [(k, .dead), (h.nxt, .live ⟨ldn ob.cells off (len * es') ++ ldn ob2.cells off2 (m * es'), true⟩)])))))))))))))))) := by
  apply propext; constructor
  · rintro ⟨ti, es1, eb, ez, ti', es1', eb', ez', h1, h2, h3, h4, h5, ob2, h6, h7, h8, h9, h10, ob, h11, h12, h13, h14⟩
    exact ⟨ti, h1, es1, eb, ez, h2, ti', h3, es1', eb', ez', h4, ⟨h5, h8⟩, ob2, h6, h7, h9, h10, ob, h11, ⟨h12, h13⟩, h14⟩
  · rintro ⟨ti, h1, es1, eb, ez, h2, ti', h3, es1', eb', ez', h4, ⟨h5, h8⟩, ob2, h6, h7, h9, h10, ob, h11, ⟨h12, h13⟩, h14⟩
    exact ⟨ti, es1, eb, ez, ti', es1', eb', ez', h1, h2, h3, h4, h5, ob2, h6, h7, h8, h9, h10, ob, h11, h12, h13, h14⟩
@[go_sem] theorem appendE_nil {t tx : TypeId} {k2 off2 m es2 : Nat} : vAppend P t tx (.c .nils) (.c (.slice k2 off2 m es2)) h (.mk K) =
    withTy P t (.mk fun ti => asSlice ti.kind (.mk fun es' eb ez => withTy P tx (.mk fun tj => asSlice tj.kind (.mk fun _ _ _ => must (ez.length = es') (.mk (withSlot (h.get k2) (.mk fun ob2 => must (off2 + m * es' ≤ ob2.cells.length)
      (.mk (must (m * eb ≤ 70368744177664) (.mk (must (m ≤ 70368744177664) (.mk (K (.c (.slice h.nxt 0 m es')) [(k2, ob2)] [(h.nxt, .live ⟨ldn ob2.cells off2 (m * es'), true⟩)]))))))))))))) := by
  apply propext; constructor
  · rintro ⟨ti, es1, eb, ez, ti', es1', eb', ez', h1, h2, h3, h4, h5, ob2, h6, h7, h9, h10, h14⟩
    exact ⟨ti, h1, es1, eb, ez, h2, ti', h3, es1', eb', ez', h4, h5, ob2, h6, h7, h9, h10, h14⟩
  · rintro ⟨ti, h1, es1, eb, ez, h2, ti', h3, es1', eb', ez', h4, h5, ob2, h6, h7, h9, h10, h14⟩
    exact ⟨ti, es1, eb, ez, ti', es1', eb', ez', h1, h2, h3, h4, h5, ob2, h6, h7, h9, h10, h14⟩

/-! numbers -/
section
variable {t : TypeId} {k k' : IntKind} {m n : Int} {K : AV → Prop}
@[go_sem] theorem binE_add : vBin P .add t (.c (.int k m)) (.c (.int k n)) (.mk K) = K (.c (.int k (wr k (m + n)))) := by simp [vBin, binE, wr]
@[go_sem] theorem binE_sub : vBin P .sub t (.c (.int k m)) (.c (.int k n)) (.mk K) = K (.c (.int k (wr k (m - n)))) := by simp [vBin, binE, wr]
@[go_sem] theorem binE_mul : vBin P .mul t (.c (.int k m)) (.c (.int k n)) (.mk K) = K (.c (.int k (wr k (m * n)))) := by simp [vBin, binE, wr]
@[go_sem] theorem binE_quo : vBin P .quo t (.c (.int k m)) (.c (.int k n)) (.mk K) = must (n ≠ 0) (.mk (K (.c (.int k (wr k (m.tdiv n)))))) := by simp [vBin, binE, wr, must]
@[go_sem] theorem binE_rem : vBin P .rem t (.c (.int k m)) (.c (.int k n)) (.mk K) = must (n ≠ 0) (.mk (K (.c (.int k (m.tmod n))))) := by simp [vBin, binE, must]
@[go_sem] theorem binE_eql : vBin P .eql t (.c (.int k m)) (.c (.int k n)) (.mk K) = K (.c (.bool (m == n))) := by simp [vBin, binE]
@[go_sem] theorem binE_neq : vBin P .neq t (.c (.int k m)) (.c (.int k n)) (.mk K) = K (.c (.bool (m != n))) := by simp [vBin, binE]
@[go_sem] theorem binE_lss : vBin P .lss t (.c (.int k m)) (.c (.int k n)) (.mk K) = K (.c (.bool (decide (m < n)))) := by simp [vBin, binE]
@[go_sem] theorem binE_leq : vBin P .leq t (.c (.int k m)) (.c (.int k n)) (.mk K) = K (.c (.bool (decide (m ≤ n)))) := by simp [vBin, binE]
@[go_sem] theorem binE_gtr : vBin P .gtr t (.c (.int k m)) (.c (.int k n)) (.mk K) = K (.c (.bool (decide (n < m)))) := by simp [vBin, binE]
@[go_sem] theorem binE_geq : vBin P .geq t (.c (.int k m)) (.c (.int k n)) (.mk K) = K (.c (.bool (decide (n ≤ m)))) := by simp [vBin, binE]
@[go_sem] theorem binE_shl : vBin P .shl t (.c (.int k m)) (.c (.int k' n)) (.mk K) = must (0 ≤ n) (.mk (K (.c (.int k (wr k (m * 2 ^ (min n.toNat k.bits))))))) := by simp [vBin, binE, wr, must]
@[go_sem] theorem binE_shr : vBin P .shr t (.c (.int k m)) (.c (.int k' n)) (.mk K) = must (0 ≤ n) (.mk (K (.c (.int k (m.fdiv (2 ^ (min n.toNat k.bits))))))) := by simp [vBin, binE, must]
@[go_sem] theorem binE_and : vBin P .and t (.c (.int k m)) (.c (.int k n)) (.mk K) = K (.c (.int k (wr k (BitVec.ofInt k.bits m &&& BitVec.ofInt k.bits n).toNat))) := by simp [vBin, binE, wr]
@[go_sem] theorem binE_eqlB {x y : Bool} : vBin P .eql t (.c (.bool x)) (.c (.bool y)) (.mk K) = must (P.underlying t = some .bool) (.mk (K (.c (.bool (x == y))))) := propext Iff.rfl
@[go_sem] theorem binE_neqB {x y : Bool} : vBin P .neq t (.c (.bool x)) (.c (.bool y)) (.mk K) = must (P.underlying t = some .bool) (.mk (K (.c (.bool (x != y))))) := propext Iff.rfl
@[go_sem] theorem binE_eqlA {xs ys : List Cell} : vBin P .eql t (.agg xs) (.agg ys) (.mk K) = must (eqArr P t = true) (.mk (must ((P.info? t).map (·.size) = some xs.length) (.mk (must (sameInts xs ys = true) (.mk (K (.c (.bool (intsEq xs ys))))))))) := propext Iff.rfl
@[go_sem] theorem binE_neqA {xs ys : List Cell} : vBin P .neq t (.agg xs) (.agg ys) (.mk K) = must (eqArr P t = true) (.mk (must ((P.info? t).map (·.size) = some xs.length) (.mk (must (sameInts xs ys = true) (.mk (K (.c (.bool !intsEq xs ys)))))))) := propext Iff.rfl
end
end

/-! ### Regions, worked out -/
theorem run_ops {P : Program} {l : List SOp} {T : List AV} {h : AHeap} {K : Exit → List AV → AHeap → Prop} (hv : vOps P 0 (.mk l) T h [] (.mk fun T' h' _ => K .normal T' h')) : SWP P (.ops l) K T h := swp_ops hv
theorem run_opsD {P : Program} {l : List SOp} {U : List (Nat × Nat)} {T : List AV} {h : AHeap} {K : Exit → List AV → AHeap → Prop} (hm : P.follows .mixedOrders = true) (hv : vOps P 0 (.mk l) T h [] (.mk fun T' h' F => must (confV U F) (.mk (K .normal T' h')))) : SWP P (.opsD l U) K T h := swp_opsD hm hv
attribute [go_sem] confV apart notIn lk Bool.not_false Bool.not_true
/-! ### Calls, ends -/
theorem call_intro {P : Program} {f : FuncId} {args : List AV} {h : AHeap} {K : Kont} {val : AV} {reads : List (Nat × AObj)} {writes : List (Nat × Slot)} (hs : FSpec P f args val reads writes)
    (h1 : ∀ p ∈ reads, h.get p.1 = .live p.2) (h2 : ∀ p ∈ writes, (∃ ob, (p.1, ob) ∈ reads) ∨ h.get p.1 = .free) (hK : K val reads writes) : vCall P f args h (.mk K) := ⟨val, reads, writes, hs, h1, h2, hK⟩
/-- A call that only computes. -/
theorem call_pure {P : Program} {f : FuncId} {args : List AV} {h : AHeap} {K : Kont} {val : AV} (hs : FSpec P f args val [] []) (hK : K val [] []) : vCall P f args h (.mk K) := ⟨val, [], [], hs, by simp, by simp, hK⟩
attribute [go_sem] List.toList_toArray isPlace placeOf List.flatten_cons List.flatten_nil List.replicate List.take_succ_cons List.take_zero List.drop_succ_cons List.drop_zero List.take_nil List.drop_nil
@[go_sem] theorem splice_nil {cs : List Cell} : splice cs 0 [] = cs := by simp [splice]
@[go_sem] theorem splice_cons {c v : Cell} {cs vs : List Cell} : splice (c :: cs) 0 (v :: vs) = v :: splice cs 0 vs := by simp [splice]
@[go_sem] theorem splice_succ {c : Cell} {cs vs : List Cell} {n : Nat} : splice (c :: cs) (n + 1) vs = c :: splice cs n vs := by
  simp only [splice, List.take_succ_cons, List.cons_append, List.cons.injEq, true_and]
  rw [show n + 1 + vs.length = (n + vs.length) + 1 from by omega, List.drop_succ_cons]
@[go_sem] theorem ldn_zero {cs : List Cell} {n : Nat} : ldn cs n 0 = [] := by simp [ldn]
@[go_sem] theorem ldn_cons {c : Cell} {cs : List Cell} {n : Nat} : ldn (c :: cs) 0 (n + 1) = c :: ldn cs 0 n := by simp [ldn]
@[go_sem] theorem ldn_succ {c : Cell} {cs : List Cell} {n m : Nat} : ldn (c :: cs) (n + 1) m = ldn cs n m := by simp [ldn]
end Go.Abs
