/- What the row needs, part 1 of 17: the texts Aa, without what it does not use. -/
import Derived.Deep.AppendSrc
import Derived.Deep.Upon
import Derived.Laws.CopyRow
import Derived.Orders
import Derived.Below
import Derived.IntWalk
import Derived.DeepKeys
import Derived.Laws.Tables
import Derived.Laws.StructEq

/- An abstract heap of objects over the memory; operations, their soundness. -/

/- An abstract heap of objects over the model's memory: what it means that a world holds these objects, and how the relation is kept by new blocks, writes, draws and forgetting. -/
namespace Go.Abs
open Go.RowKit (Below)

inductive Cell where
  | int (k : IntKind) (n : Int)
  | bool (b : Bool)
  | str (s : ByteArray)
  | ptr (k off : Nat)
  | nilp
  | slice (k off len es : Nat)
  | nils
  | fn (f : FuncId) (caps : List (Nat × Nat))
  | nilf

inductive AV where
  | c (c : Cell)
  | agg (cs : List Cell)
  | tup (vs : List AV)
  | any

structure AObj where
  cells : List Cell
  own : Bool

inductive Slot where
  | free
  | dead
  | live (o : AObj)

structure Loc where
  b : Nat
  base : Nat
  E : Nat
  real : Bool

abbrev LMap := Nat → Option Loc
abbrev Heap := Nat → Slot

def LMap.le (μ μ' : LMap) : Prop := ∀ k l, μ k = some l → μ' k = some l
theorem LMap.le_refl (μ : LMap) : μ.le μ := fun _ _ h => h
theorem LMap.le_trans {a b c : LMap} (h : a.le b) (h' : b.le c) : a.le c := fun k l e => h' k l (h k l e)

def RepP (μ : LMap) (p : Nat × Nat) (v : Value) : Prop := ∃ l, μ p.1 = some l ∧ v = .pointer (some ⟨l.b, l.base + p.2, none⟩)

def RepPs (μ : LMap) : List (Nat × Nat) → List Value → Prop
  | [], [] => True
  | p :: ps, v :: vs => RepP μ p v ∧ RepPs μ ps vs
  | _, _ => False

def RepC (μ : LMap) : Cell → Value → Prop
  | .int k n, v => v = .int k n
  | .bool b, v => v = .bool b
  | .str s, v => v = .string s
  | .ptr k off, v => RepP μ (k, off) v
  | .nilp, v => v = .pointer none
  | .slice k off len es, v => ∃ l p cap, μ k = some l ∧ v = .slice p len cap ∧ len ≤ cap ∧
      ((len = 0 ∧ cap = 0) ∨ ∃ x, p = some ⟨l.b, x, none⟩ ∧ l.real = true ∧ x + cap * es ≤ l.E ∧ (len = 0 ∨ x = l.base + off))
  | .nils, v => v = .slice none 0 0
  | .fn f caps, v => ∃ vs : List Value, v = .func (.func f) #[] vs.toArray ∧ RepPs μ caps vs
  | .nilf, v => v = .nilFunc

def RepCs (μ : LMap) : List Cell → List Value → Prop
  | [], [] => True
  | c :: cs, v :: vs => RepC μ c v ∧ RepCs μ cs vs
  | _, _ => False

inductive RepV (μ : LMap) : AV → Value → Prop
  | c {x : Cell} {v : Value} : RepC μ x v → RepV μ (.c x) v
  | agg {cs : List Cell} {vs : List Value} : RepCs μ cs vs → RepV μ (.agg cs) (.agg vs.toArray)
  | tup {as_ : List AV} {vs : List Value} : as_.length = vs.length → (∀ (i : Nat) (a : AV) (v : Value), as_[i]? = some a → vs[i]? = some v → RepV μ a v) → RepV μ (.tup as_) (.tuple vs.toArray)
  | any {v : Value} : RepV μ .any v

theorem RepP.mono {μ μ' : LMap} (h : μ.le μ') {p : Nat × Nat} {v : Value} (hr : RepP μ p v) : RepP μ' p v :=
  let ⟨l, h1, h2⟩ := hr; ⟨l, h _ _ h1, h2⟩
theorem RepPs.mono {μ μ' : LMap} (h : μ.le μ') : ∀ {ps : List (Nat × Nat)} {vs : List Value}, RepPs μ ps vs → RepPs μ' ps vs
  | [], [], _ => trivial
  | _ :: _, _ :: _, hr => ⟨hr.1.mono h, RepPs.mono h hr.2⟩
  | [], _ :: _, hr => hr.elim
  | _ :: _, [], hr => hr.elim
theorem RepC.mono {μ μ' : LMap} (h : μ.le μ') {c : Cell} {v : Value} (hr : RepC μ c v) : RepC μ' c v := by
  cases c <;> simp only [RepC] at hr ⊢ <;> try exact hr
  case ptr => exact hr.mono h
  case slice => obtain ⟨l, p, cap, h1, h2⟩ := hr; exact ⟨l, p, cap, h _ _ h1, h2⟩
  case fn => obtain ⟨vs, h1, h2⟩ := hr; exact ⟨vs, h1, h2.mono h⟩
theorem RepCs.mono {μ μ' : LMap} (h : μ.le μ') : ∀ {cs : List Cell} {vs : List Value}, RepCs μ cs vs → RepCs μ' cs vs
  | [], [], _ => trivial
  | _ :: _, _ :: _, hr => ⟨hr.1.mono h, RepCs.mono h hr.2⟩
  | [], _ :: _, hr => hr.elim
  | _ :: _, [], hr => hr.elim
theorem RepV.mono {μ μ' : LMap} (h : μ.le μ') {a : AV} {v : Value} (hr : RepV μ a v) : RepV μ' a v := by
  induction hr with
  | c hc => exact .c (hc.mono h)
  | agg hc => exact .agg (hc.mono h)
  | tup hl _ ih => exact .tup hl ih
  | any => exact .any

theorem RepC.oneCell {μ : LMap} {c : Cell} {v : Value} (h : RepC μ c v) : v.oneCell' = true := by
  cases c <;> simp only [RepC, RepP] at h
  case ptr => obtain ⟨l, _, rfl⟩ := h; rfl
  case slice => obtain ⟨l, p, cap, _, rfl, _⟩ := h; rfl
  case fn => obtain ⟨vs, rfl, _⟩ := h; rfl
  all_goals subst h; rfl

theorem RepCs.length {μ : LMap} : ∀ {cs : List Cell} {vs : List Value}, RepCs μ cs vs → cs.length = vs.length
  | [], [], _ => rfl
  | _ :: _, _ :: _, h => by simp [RepCs.length h.2]
  | [], _ :: _, h => h.elim
  | _ :: _, [], h => h.elim
theorem RepCs.get {μ : LMap} : ∀ {cs : List Cell} {vs : List Value}, RepCs μ cs vs → ∀ (j : Nat) (c : Cell), cs[j]? = some c → ∃ v, vs[j]? = some v ∧ RepC μ c v
  | [], [], _, j, c, h => by simp at h
  | c :: cs, v :: vs, hr, 0, x, h => by simp at h; subst h; exact ⟨v, rfl, hr.1⟩
  | c :: cs, v :: vs, hr, j + 1, x, h => by simpa using RepCs.get hr.2 j x (by simpa using h)
  | [], _ :: _, h, _, _, _ => h.elim
  | _ :: _, [], h, _, _, _ => h.elim
theorem RepCs.mk {μ : LMap} : ∀ {cs : List Cell} {vs : List Value}, cs.length = vs.length → (∀ (j : Nat) (c : Cell), cs[j]? = some c → ∃ v, vs[j]? = some v ∧ RepC μ c v) → RepCs μ cs vs
  | [], [], _, _ => trivial
  | c :: cs, v :: vs, hl, h => by
    refine ⟨?_, RepCs.mk (by simpa using hl) fun j x hx => by simpa using h (j + 1) x (by simpa using hx)⟩
    obtain ⟨u, hu, hr⟩ := h 0 c rfl
    simp at hu; subst hu; exact hr
  | [], _ :: _, h, _ => by simp at h
  | _ :: _, [], h, _ => by simp at h
theorem RepCs.oneCell {μ : LMap} : ∀ {cs : List Cell} {vs : List Value}, RepCs μ cs vs → ∀ v ∈ vs, v.oneCell' = true
  | [], [], _ => by simp
  | c :: cs, v :: vs, h => by
    intro x hx
    rcases List.mem_cons.1 hx with rfl | hx
    · exact h.1.oneCell
    · exact RepCs.oneCell h.2 x hx
  | [], _ :: _, h => h.elim
  | _ :: _, [], h => h.elim
theorem RepCs.append {μ : LMap} : ∀ {cs ds : List Cell} {vs us : List Value}, RepCs μ cs vs → RepCs μ ds us → RepCs μ (cs ++ ds) (vs ++ us)
  | [], _, [], _, _, h => h
  | _ :: _, _, _ :: _, _, h, h' => ⟨h.1, RepCs.append h.2 h'⟩
  | [], _, _ :: _, _, h, _ => h.elim
  | _ :: _, _, [], _, h, _ => h.elim

/-- An object lies at a place. -/
def ObjAt (μ : LMap) (B : Nat) (w : World) (l : Loc) (o : AObj) : Prop :=
  if l.real then
    ∃ c elem fz, w.heap[l.b]? = some (.cells c elem fz) ∧ c.size = l.E ∧
      (∀ (j : Nat) (x : Cell), o.cells[j]? = some x → ∃ v, c[l.base + j]? = some v ∧ RepC μ x v) ∧
      (if o.own then fz = (0, 0) ∧ B ≤ l.b else l.b < B)
  else o.cells = []

structure Rel (B : Nat) (μ : LMap) (A : Heap) (w : World) : Prop where
  free : ∀ k, A k = .free → μ k = none
  obj : ∀ k o, A k = .live o → ∃ l, μ k = some l ∧ ObjAt μ B w l o
  inj : ∀ k k' o o' l l', A k = .live o → A k' = .live o' → o.own = true → o'.own = true → μ k = some l → μ k' = some l' → l.real = true → l'.real = true → k ≠ k' → l.b ≠ l'.b
  size : B ≤ w.heap.size

theorem ObjAt.mono {μ μ' : LMap} (h : μ.le μ') {B : Nat} {w w' : World} {l : Loc} {o : AObj} (ho : ObjAt μ B w l o) (hw : l.real = true → w'.heap[l.b]? = w.heap[l.b]?) : ObjAt μ' B w' l o := by
  unfold ObjAt at *
  split
  · rename_i hr
    simp only [hr, if_true] at ho
    obtain ⟨c, elem, fz, h1, h2, h3, h4⟩ := ho
    refine ⟨c, elem, fz, (hw hr).trans h1, h2, fun j x hx => ?_, h4⟩
    obtain ⟨v, hv, hrep⟩ := h3 j x hx
    exact ⟨v, hv, hrep.mono h⟩
  · rename_i hr
    simpa [hr] using ho

theorem ObjAt.lt {μ : LMap} {B : Nat} {w : World} {l : Loc} {o : AObj} (ho : ObjAt μ B w l o) (hr : l.real = true) : l.b < w.heap.size := by
  simp only [ObjAt, hr, if_true] at ho
  obtain ⟨c, elem, fz, h1, _⟩ := ho
  exact (Array.getElem?_eq_some_iff.1 h1).1

/-- Nothing but draws. -/
theorem Rel.drew {B : Nat} {μ : LMap} {A : Heap} {w : World} (h : Rel B μ A w) : Rel B μ A w.drew :=
  ⟨h.free, fun k o ho => let ⟨l, h1, h2⟩ := h.obj k o ho; ⟨l, h1, h2.mono (LMap.le_refl _) (fun _ => rfl)⟩, h.inj, h.size⟩

def upd {α : Type} (f : Nat → α) (k : Nat) (v : α) : Nat → α := fun j => if j = k then v else f j
@[simp] theorem upd_same {α : Type} (f : Nat → α) (k : Nat) (v : α) : upd f k v k = v := by simp [upd]
theorem upd_ne {α : Type} (f : Nat → α) {k j : Nat} (v : α) (h : j ≠ k) : upd f k v j = f j := by simp [upd, h]

theorem LMap.le_upd {μ : LMap} {k : Nat} {l : Loc} (h : μ k = none) : μ.le (upd μ k (some l)) := by
  intro j l' hj
  by_cases e : j = k
  · subst e; rw [h] at hj; cases hj
  · rwa [upd_ne _ _ e]

/-- A new block for a new object. -/
theorem Rel.alloc {B : Nat} {μ : LMap} {A : Heap} {w : World} (h : Rel B μ A w) {k : Nat} (hk : A k = .free) (c : Array Value) (elem : TypeId) (cells : List Cell)
    (hc : ∀ (j : Nat) (x : Cell), cells[j]? = some x → ∃ v, c[j]? = some v ∧ RepC μ x v) :
    Rel B (upd μ k (some ⟨w.heap.size, 0, c.size, true⟩)) (upd A k (.live ⟨cells, true⟩)) (w.alloc (.cells c elem)) := by
  have hμ := h.free k hk
  have hle : μ.le (upd μ k (some ⟨w.heap.size, 0, c.size, true⟩)) := LMap.le_upd hμ
  refine ⟨fun j hj => ?_, fun j o hj => ?_, ?_, by simp; have := h.size; omega⟩
  · by_cases e : j = k
    · subst e; simp at hj
    · rw [upd_ne _ _ e] at hj ⊢; exact h.free j hj
  · by_cases e : j = k
    · subst e
      simp only [upd_same, Slot.live.injEq] at hj
      subst hj
      refine ⟨_, upd_same _ _ _, ?_⟩
      simp only [ObjAt, if_true]
      refine ⟨c, elem, (0, 0), heap_alloc_new w _, rfl, fun j x hx => ?_, rfl, h.size⟩
      obtain ⟨v, hv, hr⟩ := hc j x hx
      exact ⟨v, by simpa using hv, hr.mono hle⟩
    · rw [upd_ne _ _ e] at hj ⊢
      obtain ⟨l, h1, h2⟩ := h.obj j o hj
      exact ⟨l, h1, h2.mono hle fun hr => heap_alloc_old w _ _ (h2.lt hr)⟩
  · intro i j o o' l l' hi hj ho ho' hl hl' hr hr' hne
    by_cases e : i = k
    · subst e
      have e' : j ≠ i := fun x => hne x.symm
      rw [upd_ne _ _ e'] at hj hl'
      simp at hl; subst hl
      obtain ⟨l2, h1, h2⟩ := h.obj j o' hj
      rw [hl'] at h1; cases h1
      have := h2.lt hr'
      simp; omega
    · rw [upd_ne _ _ e] at hi hl
      by_cases e' : j = k
      · subst e'
        simp at hl'; subst hl'
        obtain ⟨l2, h1, h2⟩ := h.obj i o hi
        rw [hl] at h1; cases h1
        have := h2.lt hr
        simp; omega
      · rw [upd_ne _ _ e'] at hj hl'
        exact h.inj i j o o' l l' hi hj ho ho' hl hl' hr hr' hne

/-- A phantom: an empty object without a block. -/
theorem Rel.phantom {B : Nat} {μ : LMap} {A : Heap} {w : World} (h : Rel B μ A w) {k : Nat} (hk : A k = .free) :
    Rel B (upd μ k (some ⟨0, 0, 0, false⟩)) (upd A k (.live ⟨[], true⟩)) w := by
  have hμ := h.free k hk
  have hle : μ.le (upd μ k (some ⟨0, 0, 0, false⟩)) := LMap.le_upd hμ
  refine ⟨fun j hj => ?_, fun j o hj => ?_, ?_, h.size⟩
  · by_cases e : j = k
    · subst e; simp at hj
    · rw [upd_ne _ _ e] at hj ⊢; exact h.free j hj
  · by_cases e : j = k
    · subst e
      simp only [upd_same, Slot.live.injEq] at hj
      subst hj
      exact ⟨_, upd_same _ _ _, by simp [ObjAt]⟩
    · rw [upd_ne _ _ e] at hj ⊢
      obtain ⟨l, h1, h2⟩ := h.obj j o hj
      exact ⟨l, h1, h2.mono hle fun _ => rfl⟩
  · intro i j o o' l l' hi hj ho ho' hl hl' hr hr' hne
    by_cases e : i = k
    · subst e; simp at hl; subst hl; simp at hr
    · by_cases e' : j = k
      · subst e'; simp at hl'; subst hl'; simp at hr'
      · rw [upd_ne _ _ e] at hi hl
        rw [upd_ne _ _ e'] at hj hl'
        exact h.inj i j o o' l l' hi hj ho ho' hl hl' hr hr' hne

/-- A write into an object of one's own. -/
theorem Rel.write {B : Nat} {μ : LMap} {A : Heap} {w : World} (h : Rel B μ A w) {k : Nat} {o : AObj} {l : Loc} (hk : A k = .live o) (hown : o.own = true) (hl : μ k = some l) (hr : l.real = true)
    (c' : Array Value) (hs : c'.size = l.E) (cells : List Cell)
    (hc : ∀ (j : Nat) (x : Cell), cells[j]? = some x → ∃ v, c'[l.base + j]? = some v ∧ RepC μ x v) :
    Rel B μ (upd A k (.live ⟨cells, true⟩)) (w.setRow l.b c') := by
  obtain ⟨l0, hl0, ho⟩ := h.obj k o hk
  rw [hl] at hl0; cases hl0
  have ho' := ho
  simp only [ObjAt, hr, hown, if_true] at ho
  obtain ⟨c, elem, fz, h1, h2, h3, rfl, h5⟩ := ho
  refine ⟨fun j hj => ?_, fun j ob hj => ?_, ?_, by simp; exact h.size⟩
  · by_cases e : j = k
    · subst e; simp at hj
    · rw [upd_ne _ _ e] at hj; exact h.free j hj
  · by_cases e : j = k
    · subst e
      simp only [upd_same, Slot.live.injEq] at hj
      subst hj
      refine ⟨l, hl, ?_⟩
      simp only [ObjAt, hr, if_true]
      exact ⟨c', elem, (0, 0), setRow_heap w l.b c c' elem (0, 0) h1, hs, hc, rfl, h5⟩
    · rw [upd_ne _ _ e] at hj
      obtain ⟨l2, h6, h7⟩ := h.obj j ob hj
      refine ⟨l2, h6, h7.mono (LMap.le_refl _) fun hr2 => setRow_other w _ _ _ ?_⟩
      cases hob : ob.own with
      | true => exact h.inj j k ob o l2 l hj hk hob hown h6 hl hr2 hr e
      | false =>
        simp only [ObjAt, hr2, hob, if_true] at h7
        obtain ⟨_, _, _, _, _, _, h8⟩ := h7
        simp at h8
        omega
  · intro i j oi oj li lj hi hj hoi hoj hli hlj hri hrj hne
    have hi' : ∃ oi', A i = .live oi' ∧ oi'.own = true := by
      by_cases e : i = k
      · subst e; exact ⟨o, hk, hown⟩
      · rw [upd_ne _ _ e] at hi; exact ⟨oi, hi, hoi⟩
    have hj' : ∃ oj', A j = .live oj' ∧ oj'.own = true := by
      by_cases e : j = k
      · subst e; exact ⟨o, hk, hown⟩
      · rw [upd_ne _ _ e] at hj; exact ⟨oj, hj, hoj⟩
    obtain ⟨oi', ha, hb⟩ := hi'
    obtain ⟨oj', hc', hd⟩ := hj'
    exact h.inj i j oi' oj' li lj ha hc' hb hd hli hlj hri hrj hne

/-- An object is given up. -/
theorem Rel.kill {B : Nat} {μ : LMap} {A : Heap} {w : World} (h : Rel B μ A w) {k : Nat} (hk : A k ≠ .free) : Rel B μ (upd A k .dead) w := by
  refine ⟨fun j hj => ?_, fun j o hj => ?_, fun i j o o' l l' hi hj ho ho' hl hl' hr hr' hne => ?_, h.size⟩
  · by_cases e : j = k
    · subst e; simp at hj
    · rw [upd_ne _ _ e] at hj; exact h.free j hj
  · by_cases e : j = k
    · subst e; simp at hj
    · rw [upd_ne _ _ e] at hj; exact h.obj j o hj
  · by_cases e : i = k
    · subst e; simp at hi
    · by_cases e' : j = k
      · subst e'; simp at hj
      · rw [upd_ne _ _ e] at hi
        rw [upd_ne _ _ e'] at hj
        exact h.inj i j o o' l l' hi hj ho ho' hl hl' hr hr' hne

/-- An object of one's own goes on under a new name, seen from another place in its block. -/
theorem Rel.rename {B : Nat} {μ : LMap} {A : Heap} {w : World} (h : Rel B μ A w) {k n : Nat} {o : AObj} {l : Loc} (hk : A k = .live o) (hown : o.own = true) (hl : μ k = some l) (hr : l.real = true) (hn : A n = .free)
    (x : Nat) (cells : List Cell) (hc : ∀ (c : Array Value) (elem : TypeId) (fz : Nat × Nat), w.heap[l.b]? = some (.cells c elem fz) → ∀ (j : Nat) y, cells[j]? = some y → ∃ v, c[x + j]? = some v ∧ RepC μ y v) :
    Rel B (upd μ n (some ⟨l.b, x, l.E, true⟩)) (upd (upd A k .dead) n (.live ⟨cells, true⟩)) w := by
  have hμ := h.free n hn
  have hle : μ.le (upd μ n (some ⟨l.b, x, l.E, true⟩)) := LMap.le_upd hμ
  have hne : k ≠ n := fun e => by rw [← e, hk] at hn; cases hn
  obtain ⟨l0, hl0, ho⟩ := h.obj k o hk
  rw [hl] at hl0; cases hl0
  simp only [ObjAt, hr, hown, if_true] at ho
  obtain ⟨c, elem, fz, h1, h2, h3, rfl, h5⟩ := ho
  have key : ∀ j ob lj, j ≠ n → upd (upd A k .dead) n (.live ⟨cells, true⟩) j = .live ob → ob.own = true → μ j = some lj → lj.real = true → lj.b ≠ l.b := by
    intro j ob lj hjn hj hob hlj hrj
    rw [upd_ne _ _ hjn] at hj
    by_cases e : j = k
    · subst e; simp at hj
    · rw [upd_ne _ _ e] at hj
      exact h.inj j k ob o lj l hj hk hob hown hlj hl hrj hr e
  refine ⟨fun j hj => ?_, fun j ob hj => ?_, ?_, h.size⟩
  · by_cases e : j = n
    · subst e; simp at hj
    · rw [upd_ne _ _ e] at hj ⊢
      by_cases e' : j = k
      · subst e'; simp at hj
      · rw [upd_ne _ _ e'] at hj; exact h.free j hj
  · by_cases e : j = n
    · subst e
      simp only [upd_same, Slot.live.injEq] at hj
      subst hj
      refine ⟨_, upd_same _ _ _, ?_⟩
      simp only [ObjAt, if_true]
      refine ⟨c, elem, (0, 0), h1, h2, fun j y hy => ?_, rfl, h5⟩
      obtain ⟨v, hv, hrep⟩ := hc c elem (0, 0) h1 j y hy
      exact ⟨v, hv, hrep.mono hle⟩
    · rw [upd_ne _ _ e] at hj
      by_cases e' : j = k
      · subst e'; simp at hj
      · rw [upd_ne _ _ e'] at hj
        obtain ⟨l2, h6, h7⟩ := h.obj j ob hj
        exact ⟨l2, by rw [upd_ne _ _ e]; exact h6, h7.mono hle fun _ => rfl⟩
  · intro i j oi oj li lj hi hj hoi hoj hli hlj hri hrj hij
    by_cases e : i = n
    · subst e
      simp at hli; subst hli
      have e' : j ≠ i := fun x => hij x.symm
      have := key j oj lj e' hj hoj (by rwa [upd_ne _ _ e'] at hlj) hrj
      exact fun x => this x.symm
    · rw [upd_ne _ _ e] at hli
      by_cases e' : j = n
      · subst e'
        simp at hlj; subst hlj
        exact key i oi li e hi hoi hli hri
      · rw [upd_ne _ _ e'] at hlj
        rw [upd_ne _ _ e] at hi
        rw [upd_ne _ _ e'] at hj
        have f : ∀ i ob, upd A k .dead i = .live ob → A i = .live ob := by
          intro i ob hh
          by_cases e3 : i = k
          · subst e3; simp at hh
          · rwa [upd_ne _ _ e3] at hh
        exact h.inj i j oi oj li lj (f _ _ hi) (f _ _ hj) hoi hoj hli hlj hri hrj hij
end Go.Abs



/- The operations of a region over the abstract heap: what each asks and what it comes to, and that the model's operation does just that. -/
namespace Go.Abs
open Go.RowKit (Below)

inductive TyK where
  | other
  | int (k : IntKind)
  | str
  | struct (fs : List (Nat × Nat))
  | array (n es : Nat) (eagg : Bool)
  | slice (es ebytes : Nat) (ezero : List Cell)

structure TyI where
  agg : Bool
  size : Nat
  bytes : Nat
  zero : List Cell
  kind : TyK

def cellOf : Value → Option Cell
  | .int k n => some (.int k n)
  | .bool b => some (.bool b)
  | .string s => some (.str s)
  | .pointer none => some .nilp
  | .slice none 0 0 => some .nils
  | .nilFunc => some .nilf
  | _ => none

def cellsOfL : List Value → Option (List Cell)
  | [] => some []
  | v :: vs => match cellOf v, cellsOfL vs with | some c, some cs => some (c :: cs) | _, _ => none

theorem cellOf_rep {μ : LMap} {v : Value} {c : Cell} (h : cellOf v = some c) : RepC μ c v := by
  unfold cellOf at h
  split at h <;> simp at h <;> subst h <;> simp [RepC]
theorem cellsOfL_rep {μ : LMap} : ∀ {vs : List Value} {cs : List Cell}, cellsOfL vs = some cs → RepCs μ cs vs
  | [], cs, h => by simp [cellsOfL] at h; subst h; trivial
  | v :: vs, cs, h => by
    simp only [cellsOfL] at h
    split at h
    · rename_i c cs' h1 h2
      simp at h; subst h
      exact ⟨cellOf_rep h1, cellsOfL_rep h2⟩
    · cases h

def zeroOf (P : Program) (t : TypeId) : Option (List Cell) := (P.info? t).bind fun i => i.zero.bind fun z => cellsOfL z.cells.toList

def isAggT (P : Program) (t : TypeId) : Bool := match P.underlying t with | some (.struct _) | some (.array ..) => true | _ => false

def kindOf (P : Program) (t : TypeId) : TyK :=
  match P.underlying t with
  | some (.int k) => .int k
  | some .string => .str
  | some (.struct fs) => match fs.toList.mapM (fun f => (P.info? f.type).map fun i => (f.offset, i.size)) with
    | some l => .struct l
    | none => .other
  | some (.array n e) => match P.info? e, P.underlying e with
    | some ie, some _ => .array n ie.size (isAggT P e)
    | _, _ => .other
  | some (.slice e) => match P.info? e, zeroOf P e with
    | some ie, some z => .slice ie.size ie.bytes z
    | _, _ => .other
  | _ => .other

def tyOf (P : Program) (t : TypeId) : Option TyI :=
  match P.info? t, P.underlying t, zeroOf P t with
  | some i, some d, some z => some { agg := (match d with | .struct _ | .array .. => true | _ => false), size := i.size, bytes := i.bytes, zero := z, kind := kindOf P t }
  | _, _, _ => none

theorem tyOf_spec {P : Program} {t : TypeId} {ti : TyI} (h : tyOf P t = some ti) : ∃ i d z, P.info? t = some i ∧ P.underlying t = some d ∧ i.zero = some z ∧
    cellsOfL z.cells.toList = some ti.zero ∧ ti.size = i.size ∧ ti.bytes = i.bytes ∧ ti.agg = (match d with | .struct _ | .array .. => true | _ => false) ∧ ti.kind = kindOf P t := by
  unfold tyOf at h
  split at h
  · rename_i i d z h1 h2 h3
    simp at h; subst h
    unfold zeroOf at h3
    rw [h1] at h3
    simp only [Option.bind_some] at h3
    cases hz : i.zero with
    | none => rw [hz] at h3; cases h3
    | some zz => exact ⟨i, d, zz, h1, h2, hz, by rw [hz] at h3; simpa using h3, rfl, rfl, rfl, rfl⟩
  · cases h

/-! ### The heap of a walk -/
structure AHeap where
  old : Heap
  N : Nat
  new : List Slot

def nid (N i : Nat) : Nat := N + i
def AHeap.get (h : AHeap) : Heap := fun k => if k < h.N then h.old k else h.new.getD (k - h.N) .free
def setAt : List Slot → Nat → Slot → List Slot
  | [], 0, s => [s]
  | [], n + 1, s => .free :: setAt [] n s
  | _ :: l, 0, s => s :: l
  | x :: l, n + 1, s => x :: setAt l n s
def AHeap.put (h : AHeap) (k : Nat) (s : Slot) : AHeap := if k < h.N then { h with old := upd h.old k s } else { h with new := setAt h.new (k - h.N) s }
def AHeap.puts (h : AHeap) (ws : List (Nat × Slot)) : AHeap := ws.foldl (fun h p => h.put p.1 p.2) h
def AHeap.nxt (h : AHeap) : Nat := nid h.N h.new.length
def putsG (G : Heap) (ws : List (Nat × Slot)) : Heap := ws.foldl (fun G p => upd G p.1 p.2) G

theorem getD_setAt : ∀ (l : List Slot) (n : Nat) (s : Slot) (j : Nat), (setAt l n s).getD j .free = if j = n then s else l.getD j .free
  | [], 0, s, j => by cases j <;> simp [setAt]
  | [], n + 1, s, 0 => by simp [setAt]
  | [], n + 1, s, j + 1 => by
    have := getD_setAt [] n s j
    simp [setAt] at this ⊢
    exact this
  | x :: l, 0, s, j => by cases j <;> simp [setAt]
  | x :: l, n + 1, s, 0 => by simp [setAt]
  | x :: l, n + 1, s, j + 1 => by
    have := getD_setAt l n s j
    simp [setAt] at this ⊢
    exact this

theorem AHeap.get_put (h : AHeap) (k : Nat) (s : Slot) : (h.put k s).get = upd h.get k s := by
  funext j
  unfold AHeap.put
  split
  · rename_i hk
    by_cases e : j = k
    · subst e; simp [AHeap.get, hk]
    · rw [upd_ne _ _ e]; simp [AHeap.get, upd_ne _ _ e]
  · rename_i hk
    by_cases e : j = k
    · subst e
      simp only [AHeap.get, hk, if_false, getD_setAt, if_true, upd_same]
    · rw [upd_ne _ _ e]
      simp only [AHeap.get]
      split
      · rfl
      · rw [getD_setAt, if_neg (by omega)]
theorem AHeap.get_puts : ∀ (ws : List (Nat × Slot)) (h : AHeap), (h.puts ws).get = putsG h.get ws
  | [], _ => rfl
  | p :: ws, h => by
    show ((h.put p.1 p.2).puts ws).get = putsG (upd h.get p.1 p.2) ws
    rw [AHeap.get_puts ws, AHeap.get_put]
theorem AHeap.get_nxt (h : AHeap) : h.get h.nxt = .free := by
  have h1 : ¬ h.nxt < h.N := by unfold AHeap.nxt nid; omega
  have h2 : h.new.length ≤ h.nxt - h.N := by unfold AHeap.nxt nid; omega
  simp only [AHeap.get, h1, if_false, List.getD_eq_getElem?_getD, List.getElem?_eq_none h2]
  rfl
theorem AHeap.fin (h : AHeap) : ∃ M, ∀ k, M ≤ k → h.get k = .free := ⟨h.N + h.new.length, fun k hk => by
  simp only [AHeap.get]
  rw [if_neg (by omega), List.getD_eq_getElem?_getD, List.getElem?_eq_none (by omega)]
  rfl⟩

def splice (cells : List Cell) (off : Nat) (vs : List Cell) : List Cell := cells.take off ++ vs ++ cells.drop (off + vs.length)
theorem length_splice {cells : List Cell} {off : Nat} {vs : List Cell} (h : off + vs.length ≤ cells.length) : (splice cells off vs).length = cells.length := by
  simp [splice]; omega

def AV.cells : AV → Option (List Cell)
  | .c x => some [x]
  | .agg cs => some cs
  | _ => none

def constAV : Value → AV
  | .int k n => .c (.int k n)
  | .bool b => .c (.bool b)
  | .string s => .c (.str s)
  | .pointer none => .c .nilp
  | .slice none 0 0 => .c .nils
  | .nilFunc => .c .nilf
  | _ => .any

theorem constAV_rep {μ : LMap} (v : Value) : RepV μ (constAV v) v := by
  unfold constAV
  split <;> first | exact .c rfl | exact .any

def rd : List AV → Nat → AV
  | [], _ => .any
  | a :: _, 0 => a
  | _ :: l, n + 1 => rd l n

theorem rd_eq : ∀ (l : List AV) (n : Nat), rd l n = l.getD n .any
  | [], _ => rfl
  | _ :: _, 0 => rfl
  | _ :: l, n + 1 => by simpa [rd] using rd_eq l n

def ev (T : List AV) : Operand → AV
  | .tmp t => rd T t
  | .const v => constAV v
  | .global _ => .any
  | .func f => .c (.fn f [])

/-- The frame's slots. -/
structure RepT (μ : LMap) (T : List AV) (a : Act) : Prop where
  defers : a.defers = []
  size : a.tmps.size = T.length
  get : ∀ (i : Nat) (x : AV), T[i]? = some x → ∃ v, a.tmps[i]? = some v ∧ RepV μ x v

theorem RepT.ev {μ : LMap} {T : List AV} {a : Act} (h : RepT μ T a) (x : Operand) : RepV μ (ev T x) (a.eval x) := by
  cases x with
  | tmp t =>
    simp only [Abs.ev, Act.eval, rd_eq]
    cases ht : T[t]? with
    | none => simp [List.getD, ht]; exact .any
    | some y =>
      obtain ⟨v, hv, hr⟩ := h.get t y ht
      have e : a.tmps.getD t undef = v := by
        rw [Array.getD_eq_getD_getElem?, hv]; rfl
      rw [e]
      simpa [List.getD, ht] using hr
  | const v => exact constAV_rep v
  | global g => exact .any
  | func f => exact .c ⟨[], rfl, trivial⟩

theorem RepT.mono {μ μ' : LMap} (h : μ.le μ') {T : List AV} {a : Act} (ht : RepT μ T a) : RepT μ' T a :=
  ⟨ht.defers, ht.size, fun i x hx => let ⟨v, hv, hr⟩ := ht.get i x hx; ⟨v, hv, hr.mono h⟩⟩

def setT (T : List AV) : Option Tmp → AV → List AV
  | some d, v => T.set d v
  | none, _ => T

theorem RepT.put {μ : LMap} {T : List AV} {a : Act} (h : RepT μ T a) (d : Option Tmp) {x : AV} {v : Value} (hv : RepV μ x v) : RepT μ (setT T d x) (a.put d v) := by
  cases d with
  | none => exact h
  | some d =>
    refine ⟨h.defers, by simp [Act.put, setT, h.size], fun i y hy => ?_⟩
    simp only [setT, List.getElem?_set] at hy
    simp only [Act.put, Array.getElem?_setIfInBounds]
    split at hy
    · rename_i e
      subst e
      split at hy
      · rename_i hlt
        simp at hy; subst hy
        exact ⟨v, by simp [h.size, hlt], hv⟩
      · cases hy
    · rename_i e
      simp only [e, if_false]
      exact h.get i y hy

/-! ### What an operation does -/

def OpS (P : Program) (o : Oper) (ρ : Operand → AV) (val : AV) (reads : List (Nat × AObj)) (writes : List (Nat × Slot)) : Prop :=
  ∀ (B : Nat) (μ : LMap) (G : Heap) (w : World) (a : Act) (next : Act → World → Prop) (Q : Exit → Act → World → Prop), Rel B μ G w → (∃ M, ∀ k, M ≤ k → G k = .free) →
    (∀ p ∈ reads, G p.1 = .live p.2) → (∀ p ∈ writes, (∃ ob, (p.1, ob) ∈ reads) ∨ G p.1 = .free) → (∀ x ∈ o.op.operands, RepV μ (ρ x) (a.eval x)) →
    (∀ v μ' w', μ.le μ' → RepV μ' val v → Rel B μ' (putsG G writes) w' → Below B w w' → next (a.put o.dst v) w') → o.wp P a w next Q

theorem wp_value {P : Program} {o : Oper} {a : Act} {w w' : World} {v : Value} {next : Act → World → Prop} {Q : Exit → Act → World → Prop}
    (h : (execOp a.eval o).run P w = .ok (.value v) w') (hn : next (a.put o.dst v) w') : o.wp P a w next Q := by
  unfold Oper.wp; rw [h]; exact hn
theorem wp_skip' {P : Program} {o : Oper} {a : Act} {w w' : World} {next : Act → World → Prop} {Q : Exit → Act → World → Prop}
    (h : (execOp a.eval o).run P w = .ok .skip w') (hn : next (a.put o.dst undef) w') : o.wp P a w next Q := by
  unfold Oper.wp; rw [h]; exact hn

/-- A pure operation. -/
theorem OpS.pure {P : Program} {o : Oper} {ρ : Operand → AV} {val : AV}
    (h : ∀ (μ : LMap) (w : World) (a : Act), (∀ x ∈ o.op.operands, RepV μ (ρ x) (a.eval x)) → ∃ v, (execOp a.eval o).run P w = .ok (.value v) w ∧ RepV μ val v) : OpS P o ρ val [] [] := by
  intro B μ G w a next Q hR _ _ _ hops hn
  obtain ⟨v, h1, h2⟩ := h μ w a hops
  exact wp_value h1 (hn v μ w (LMap.le_refl _) h2 hR (Below.refl _ _))

theorem RepV.c_inv {μ : LMap} {c : Cell} {v : Value} (h : RepV μ (.c c) v) : RepC μ c v := by cases h; assumption
theorem RepV.agg_inv {μ : LMap} {cs : List Cell} {v : Value} (h : RepV μ (.agg cs) v) : ∃ vs : List Value, v = .agg vs.toArray ∧ RepCs μ cs vs := by
  cases h; exact ⟨_, rfl, by assumption⟩
theorem RepV.cells_inv {μ : LMap} {x : AV} {cs : List Cell} {v : Value} (hx : x.cells = some cs) (h : RepV μ x v) : RepCs μ cs v.cells.toList := by
  cases h with
  | c hc =>
    rename_i c
    simp [AV.cells] at hx; subst hx
    have h1 := hc.oneCell
    have : v.cells = #[v] := by cases v <;> simp_all [Value.cells, Value.oneCell']
    rw [this]
    exact ⟨hc, trivial⟩
  | agg hc => simp [AV.cells] at hx; subst hx; simpa [Value.cells] using hc
  | tup => simp [AV.cells] at hx
  | any => simp [AV.cells] at hx
theorem RepV.tup_inv {μ : LMap} {as_ : List AV} {v : Value} (h : RepV μ (.tup as_) v) : ∃ vs : List Value, v = .tuple vs.toArray ∧ as_.length = vs.length ∧ ∀ (i : Nat) (a : AV) (u : Value), as_[i]? = some a → vs[i]? = some u → RepV μ a u := by
  cases h; exact ⟨_, rfl, by assumption, by assumption⟩

theorem zeroOf_spec {P : Program} {t : TypeId} {z : List Cell} (h : zeroOf P t = some z) : ∃ i zz, P.info? t = some i ∧ i.zero = some zz ∧ cellsOfL zz.cells.toList = some z := by
  unfold zeroOf at h
  cases hi : P.info? t with
  | none => rw [hi] at h; cases h
  | some i =>
    rw [hi] at h
    simp only [Option.bind_some] at h
    cases hz : i.zero with
    | none => rw [hz] at h; cases h
    | some zz => exact ⟨i, zz, rfl, hz, by rw [hz] at h; simpa using h⟩

theorem kind_int {P : Program} {t : TypeId} {k : IntKind} (h : kindOf P t = .int k) : P.underlying t = some (.int k) := by
  unfold kindOf at h
  split at h <;> (try split at h) <;> simp_all
theorem kind_str {P : Program} {t : TypeId} (h : kindOf P t = .str) : P.underlying t = some .string := by
  unfold kindOf at h
  split at h <;> (try split at h) <;> simp_all
theorem kind_struct {P : Program} {t : TypeId} {l : List (Nat × Nat)} (h : kindOf P t = .struct l) : ∃ fs, P.underlying t = some (.struct fs) ∧ fs.toList.mapM (fun f => (P.info? f.type).map fun i => (f.offset, i.size)) = some l := by
  unfold kindOf at h
  split at h <;> (try split at h) <;> simp_all
theorem kind_array {P : Program} {t : TypeId} {n es : Nat} {ea : Bool} (h : kindOf P t = .array n es ea) : ∃ e ie d, P.underlying t = some (.array n e) ∧ P.info? e = some ie ∧ ie.size = es ∧ P.underlying e = some d ∧ ea = isAggT P e := by
  unfold kindOf at h
  split at h <;> (try split at h) <;> simp_all
theorem kind_slice {P : Program} {t : TypeId} {es eb : Nat} {ez : List Cell} (h : kindOf P t = .slice es eb ez) : ∃ e ie z, P.underlying t = some (.slice e) ∧ P.info? e = some ie ∧ ie.size = es ∧ ie.bytes = eb ∧ ie.zero = some z ∧ cellsOfL z.cells.toList = some ez := by
  unfold kindOf at h
  split at h <;> (try split at h) <;> simp_all
  rename_i hie hz
  obtain ⟨i, zz, h1, h2, h3⟩ := zeroOf_spec hz
  rw [hie] at h1; cases h1
  exact ⟨zz, h2, h3⟩
end Go.Abs



/- Each operation's soundness over the abstract heap. -/
namespace Go.Abs
open Go.RowKit (Below)

/-! ### Calls by contract -/
def RepVs (μ : LMap) : List AV → List Value → Prop
  | [], [] => True
  | a :: as_, v :: vs => RepV μ a v ∧ RepVs μ as_ vs
  | _, _ => False

def callable (P : Program) (f : FuncId) : Bool :=
  match P.funcs[f]? with
  | some fn => !(fn.name == "runtime.NumGoroutine") && fn.body.isSome
  | none => false

def FSpec (P : Program) (f : FuncId) (args : List AV) (val : AV) (reads : List (Nat × AObj)) (writes : List (Nat × Slot)) : Prop :=
  callable P f = true ∧ ∀ (B : Nat) (μ : LMap) (G : Heap) (w : World) (vs : List Value), Rel B μ G w → (∃ M, ∀ k, M ≤ k → G k = .free) →
    (∀ p ∈ reads, G p.1 = .live p.2) → (∀ p ∈ writes, (∃ ob, (p.1, ob) ∈ reads) ∨ G p.1 = .free) → RepVs μ args vs →
    Calls P f vs.toArray w (fun e w' => ∃ v μ', e = .returned v ∧ μ.le μ' ∧ RepV μ' val v ∧ Rel B μ' (putsG G writes) w' ∧ Below B w w')

abbrev Kont := AV → List (Nat × AObj) → List (Nat × Slot) → Prop

def callE (P : Program) (f : FuncId) (args : List AV) (h : AHeap) (K : Kont) : Prop :=
  ∃ val reads writes, FSpec P f args val reads writes ∧ (∀ p ∈ reads, h.get p.1 = .live p.2) ∧ (∀ p ∈ writes, (∃ ob, (p.1, ob) ∈ reads) ∨ h.get p.1 = .free) ∧ K val reads writes

def fillC (place : Nat → Option (Nat × Nat)) (cells : List Cell) : List (Nat × AV) → Option (List Cell)
  | [] => some cells
  | (i, v) :: rest =>
    match place i, v.cells with
    | some (off, size), some vs => if vs.length = size ∧ off + vs.length ≤ cells.length then fillC place (splice cells off vs) rest else none
    | _, _ => none

def placeOf : TyK → Nat → Option (Nat × Nat)
  | .struct fs, i => fs[i]?
  | .array _ es _, i => some (i * es, es)
  | _, _ => none

def isPlace : TyK → Bool
  | .struct _ => true
  | .array _ _ _ => true
  | _ => false

def ptrs : List AV → Option (List (Nat × Nat))
  | [] => some []
  | .c (.ptr k off) :: l => (ptrs l).map ((k, off) :: ·)
  | _ :: _ => none

def sameInts : List Cell → List Cell → Bool
  | [], [] => true
  | .int k _ :: l, .int k' _ :: l' => k = k' && sameInts l l'
  | _, _ => false

def intsEq : List Cell → List Cell → Bool
  | .int _ a :: l, .int _ b :: l' => a == b && intsEq l l'
  | _, _ => true

/-- Fields one behind the other, each of a type that is let by, to a struct of n cells. -/
def intFlds (P : Program) (q : TypeId → Bool) (n : Nat) : Nat → List Field → Bool
  | off, [] => off == n
  | off, f :: fs => f.name != "_" && f.offset == off && q f.type && intFlds P q n (off + P.cellsOf f.type) fs
/-- A type whose items lead to integers of one cell: an integer, an array, a struct. -/
def intArr (P : Program) : Nat → TypeId → Bool
  | 0, _ => false
  | d + 1, t => match P.underlying t with
    | some (.int _) => (P.info? t).map (·.size) == some 1
    | some (.array n e) => (P.info? t).map (·.size) == some (n * P.cellsOf e) && intArr P d e
    | some (.struct fs) => !(P.stoodInHeld t) && intFlds P (intArr P d) (P.cellsOf t) 0 fs.toList
    | _ => false

def eqArr (P : Program) (t : TypeId) : Bool := !(P.eqGuardType P.depth t) && intArr P 4 t && isAggT P t

def binE (P : Program) (op : BinOp) (t : TypeId) (a b : AV) (K : AV → Prop) : Prop :=
  match a, b with
  | .c (.int k m), .c (.int k' n) =>
    match op with
    | .add => k' = k ∧ K (.c (.int k (k.wrap (m + n))))
    | .sub => k' = k ∧ K (.c (.int k (k.wrap (m - n))))
    | .mul => k' = k ∧ K (.c (.int k (k.wrap (m * n))))
    | .quo => k' = k ∧ n ≠ 0 ∧ K (.c (.int k (k.wrap (m.tdiv n))))
    | .rem => k' = k ∧ n ≠ 0 ∧ K (.c (.int k (m.tmod n)))
    | .and => k' = k ∧ K (.c (.int k (k.wrap (BitVec.ofInt k.bits m &&& BitVec.ofInt k.bits n).toNat)))
    | .shl => 0 ≤ n ∧ K (.c (.int k (k.wrap (m * 2 ^ (min n.toNat k.bits)))))
    | .shr => 0 ≤ n ∧ K (.c (.int k (m.fdiv (2 ^ (min n.toNat k.bits)))))
    | .eql => k' = k ∧ K (.c (.bool (m == n)))
    | .neq => k' = k ∧ K (.c (.bool (m != n)))
    | .lss => k' = k ∧ K (.c (.bool (decide (m < n))))
    | .leq => k' = k ∧ K (.c (.bool (decide (m ≤ n))))
    | .gtr => k' = k ∧ K (.c (.bool (decide (n < m))))
    | .geq => k' = k ∧ K (.c (.bool (decide (n ≤ m))))
    | _ => False
  | .c (.bool x), .c (.bool y) =>
    match op with
    | .eql => P.underlying t = some .bool ∧ K (.c (.bool (x == y)))
    | .neq => P.underlying t = some .bool ∧ K (.c (.bool (x != y)))
    | _ => False
  | .agg xs, .agg ys =>
    match op with
    | .eql => eqArr P t = true ∧ (P.info? t).map (·.size) = some xs.length ∧ sameInts xs ys = true ∧ K (.c (.bool (intsEq xs ys)))
    | .neq => eqArr P t = true ∧ (P.info? t).map (·.size) = some xs.length ∧ sameInts xs ys = true ∧ K (.c (.bool (!intsEq xs ys)))
    | _ => False
  | _, _ => False

/-- The elements that an append is handed: how many and which cells. -/
def srcE (h : AHeap) (es : Nat) (x : AV) (K : Nat → List Cell → List (Nat × AObj) → Prop) : Prop :=
  match x with
  | .c .nils => K 0 [] []
  | .c (.slice k off len _) => ∃ ob, h.get k = .live ob ∧ off + len * es ≤ ob.cells.length ∧ K len ((ob.cells.drop off).take (len * es)) [(k, ob)]
  | _ => False

def appendE (P : Program) (t tx : TypeId) (s x : AV) (h : AHeap) (K : Kont) : Prop :=
  ∃ ti es eb ez ti' es' eb' ez', tyOf P t = some ti ∧ ti.kind = .slice es eb ez ∧ tyOf P tx = some ti' ∧ ti'.kind = .slice es' eb' ez' ∧ ez.length = es ∧
    srcE h es x fun m news rs =>
      match s with
      | .c .nils => m * eb ≤ 70368744177664 ∧ m ≤ 70368744177664 ∧ K (.c (.slice h.nxt 0 m es)) rs [(h.nxt, .live ⟨news, true⟩)]
      | .c (.slice k off len es2) => es2 = es ∧ (len + m) * eb ≤ 70368744177664 ∧ len + m ≤ 70368744177664 ∧
          ∃ ob, h.get k = .live ob ∧ ob.own = true ∧ off + len * es ≤ ob.cells.length ∧
            K (.c (.slice h.nxt 0 (len + m) es)) ((k, ob) :: rs) [(k, .dead), (h.nxt, .live ⟨(ob.cells.drop off).take (len * es) ++ news, true⟩)]
      | _ => False

def sliceE (P : Program) (t : TypeId) (x : AV) (lo hi mx : Option AV) (h : AHeap) (K : Kont) : Prop :=
  ∃ ti, tyOf P t = some ti ∧
  match ti.kind, x, mx with
  | .slice es _ _, .c (.slice k off len es2), none => es2 = es ∧
    ∃ kl kh l r, lo.getD (.c (.int .i64 0)) = .c (.int kl l) ∧ hi.getD (.c (.int .i64 len)) = .c (.int kh r) ∧ 0 ≤ l ∧ l ≤ r ∧ r ≤ len ∧
      K (.c (.slice k (off + l.toNat * es) (r - l).toNat es)) [] []
  | .slice _ _ _, .c .nils, none =>
    ∃ kl kh, lo.getD (.c (.int .i64 0)) = .c (.int kl 0) ∧ hi.getD (.c (.int .i64 0)) = .c (.int kh 0) ∧ K (.c .nils) [] []
  | .slice es _ _, .c (.slice _ _ _ es2), some (.c (.int _ 0)) => es2 = es ∧ lo.getD (.c (.int .i64 0)) = .c (.int .i64 0) ∧ hi = some (.c (.int .i64 0)) ∧
      K (.c (.slice h.nxt 0 0 es)) [] [(h.nxt, .live ⟨[], true⟩)]
  | .slice _ _ _, .c .nils, some (.c (.int _ 0)) => lo.getD (.c (.int .i64 0)) = .c (.int .i64 0) ∧ hi = some (.c (.int .i64 0)) ∧ K (.c .nils) [] []
  | .array n es _, .c (.ptr k off), none => lo = none ∧ hi = none ∧ ∃ ob, h.get k = .live ob ∧ off + n * es ≤ ob.cells.length ∧ 0 < n * es ∧ K (.c (.slice k off n es)) [(k, ob)] []
  | _, _, _ => False

/-- A struct's field that is one cell. -/
def fieldPlain (P : Program) (s : TypeId) (f : Nat) : Bool := match P.underlying s with
  | some (.struct fs) => (match fs[f]? with | some fd => (P.underlying fd.type).isSome && !isAggT P fd.type | none => false)
  | _ => false
def opE (P : Program) (o : Op) (ρ : Operand → AV) (h : AHeap) (K : Kont) : Prop :=
  match o with
  | .move x => K (ρ x) [] []
  | .assign x => K (ρ x) [] []
  | .pick c a b => ∃ t, ρ c = .c (.bool t) ∧ (t = true → K (ρ a) [] []) ∧ (t = false → K (ρ b) [] [])
  | .alloc e => ∃ ti, tyOf P e = some ti ∧ K (.c (.ptr h.nxt 0)) [] [(h.nxt, .live ⟨ti.zero, true⟩)]
  | .box _ x => ∃ cs, (ρ x).cells = some cs ∧ K (.c (.ptr h.nxt 0)) [] [(h.nxt, .live ⟨cs, true⟩)]
  | .build t parts => ∃ ti cs, tyOf P t = some ti ∧ isPlace ti.kind = true ∧ fillC (placeOf ti.kind) ti.zero (parts.toList.map fun p => (p.1, ρ p.2)) = some cs ∧ K (.agg cs) [] []
  | .buildSlice t len parts => ∃ ti es eb ez cs, tyOf P t = some ti ∧ ti.kind = .slice es eb ez ∧ ez.length = es ∧ len * es ≤ 16777216 ∧
      fillC (fun i => some (i * es, es)) (List.replicate len ez).flatten (parts.toList.map fun p => (p.1, ρ p.2)) = some cs ∧ K (.c (.slice h.nxt 0 len es)) [] [(h.nxt, .live ⟨cs, true⟩)]
  | .load t a => ∃ ti k off ob, tyOf P t = some ti ∧ ρ a = .c (.ptr k off) ∧ h.get k = .live ob ∧
      (if ti.agg then off + ti.size ≤ ob.cells.length ∧ K (.agg ((ob.cells.drop off).take ti.size)) [(k, ob)] [] else ∃ c, ob.cells[off]? = some c ∧ K (.c c) [(k, ob)] [])
  | .store t a x => ∃ ti k off ob cs, tyOf P t = some ti ∧ ρ a = .c (.ptr k off) ∧ h.get k = .live ob ∧ ob.own = true ∧ (ρ x).cells = some cs ∧ cs.length = ti.size ∧ off + cs.length ≤ ob.cells.length ∧
      K .any [(k, ob)] [(k, .live ⟨splice ob.cells off cs, true⟩)]
  | .binOp op t x y _ => binE P op t (ρ x) (ρ y) fun v => K v [] []
  | .unOp .not _ x => ∃ b, ρ x = .c (.bool b) ∧ K (.c (.bool !b)) [] []
  | .unOp .neg _ x => ∃ k n, ρ x = .c (.int k n) ∧ K (.c (.int k (k.wrap (0 - n)))) [] []
  | .convert src dst x => ∃ ti ti' k k' n, tyOf P src = some ti' ∧ tyOf P dst = some ti ∧ ti.kind = .int k ∧ ρ x = .c (.int k' n) ∧ K (.c (.int k (k.wrap n))) [] []
  | .makeFunc (.func f) first captured => first = #[] ∧ ∃ ps, ptrs (captured.toList.map ρ) = some ps ∧ K (.c (.fn f ps)) [] []
  | .makeSlice t l c => ∃ ti es eb ez kl kc m n, tyOf P t = some ti ∧ ti.kind = .slice es eb ez ∧ ez.length = es ∧ ρ l = .c (.int kl m) ∧ ρ c = .c (.int kc n) ∧ 0 ≤ m ∧ m ≤ n ∧ n * eb ≤ 70368744177664 ∧ n ≤ 70368744177664 ∧
      K (.c (.slice h.nxt 0 m.toNat es)) [] [(h.nxt, .live ⟨(List.replicate n.toNat ez).flatten, true⟩)]
  | .slice t x lo hi mx => sliceE P t (ρ x) (lo.map ρ) (hi.map ρ) (mx.map ρ) h K
  | .fieldAddr s x f => ∃ ti fs off' sz k off, tyOf P s = some ti ∧ ti.kind = .struct fs ∧ fs[f]? = some (off', sz) ∧ sz ≠ 0 ∧ ρ x = .c (.ptr k off) ∧ K (.c (.ptr k (off + off'))) [] []
  | .indexAddr t x ix => ∃ ti ki i, tyOf P t = some ti ∧ ρ ix = .c (.int ki i) ∧
      match ti.kind, ρ x with
      | .array n es _, .c (.ptr k off) => 0 ≤ i ∧ i < n ∧ K (.c (.ptr k (off + i.toNat * es))) [] []
      | .slice es _ _, .c (.slice k off len es2) => es2 = es ∧ 0 ≤ i ∧ i < len ∧ K (.c (.ptr k (off + i.toNat * es))) [] []
      | _, _ => False
  | .index t x ix => ∃ ti ki i n es ea cs, tyOf P t = some ti ∧ ti.kind = .array n es ea ∧ ρ x = .agg cs ∧ ρ ix = .c (.int ki i) ∧ 0 ≤ i ∧ i < n ∧
      (if ea then i.toNat * es + es ≤ cs.length ∧ K (.agg ((cs.drop (i.toNat * es)).take es)) [] [] else ∃ c, cs[i.toNat * es]? = some c ∧ K (.c c) [] [])
  | .extract x i => ∃ vs v, ρ x = .tup vs ∧ vs[i]? = some v ∧ K v [] []
  | .field s x f => fieldPlain P s f = true ∧ ∃ ti fs off' sz cs c, tyOf P s = some ti ∧ ti.kind = .struct fs ∧ fs[f]? = some (off', sz) ∧ ρ x = .agg cs ∧ cs[off']? = some c ∧ K (.c c) [] []
  | .call c =>
    match c.callee with
    | .value f => ∃ g caps, ρ f = .c (.fn g caps) ∧ callE P g (c.args.toList.map ρ ++ caps.map fun p => .c (.ptr p.1 p.2)) h K
    | .builtin .len => ∃ t x ti, c.argTypes = #[t] ∧ c.args = #[x] ∧ tyOf P t = some ti ∧
        match ti.kind, ρ x with
        | .slice _ _ _, .c (.slice _ _ len _) => K (.c (.int .i64 len)) [] []
        | .slice _ _ _, .c .nils => K (.c (.int .i64 0)) [] []
        | .array n _ _, _ => K (.c (.int .i64 n)) [] []
        | .str, .c (.str s) => K (.c (.int .i64 s.size)) [] []
        | _, _ => False
    | .builtin .append => ∃ t tx s x, c.argTypes = #[t, tx] ∧ c.args = #[s, x] ∧ appendE P t tx (ρ s) (ρ x) h K
    | .builtin .max => (∃ x y k m n, c.args = #[x, y] ∧ ρ x = .c (.int k m) ∧ ρ y = .c (.int k n) ∧ K (.c (.int k (if n > m then n else m))) [] []) ∨
        (∃ x y z k m n r, c.args = #[x, y, z] ∧ ρ x = .c (.int k m) ∧ ρ y = .c (.int k n) ∧ ρ z = .c (.int k r) ∧ K (.c (.int k (if r > (if n > m then n else m) then r else if n > m then n else m))) [] [])
    | .builtin .min => ∃ x y k m n, c.args = #[x, y] ∧ ρ x = .c (.int k m) ∧ ρ y = .c (.int k n) ∧ K (.c (.int k (if n < m then n else m))) [] []
    | .builtin .clear => ∃ t x ti es eb ez k off len ob, c.argTypes = #[t] ∧ c.args = #[x] ∧ tyOf P t = some ti ∧ ti.kind = .slice es eb ez ∧ ez.length = es ∧ ρ x = .c (.slice k off len es) ∧ h.get k = .live ob ∧
        ob.own = true ∧ off + len * es ≤ ob.cells.length ∧ K (.tup []) [(k, ob)] [(k, .live ⟨splice ob.cells off (List.replicate len ez).flatten, true⟩)]
    | _ => False
  | .nilCheck x => ∃ k off, ρ x = .c (.ptr k off) ∧ K (.c (.ptr k off)) [] []
  | _ => False

/-- What is to be shown of each operation. -/
def Snd (P : Program) (o : Oper) (ρ : Operand → AV) (h : AHeap) (K : Kont) : Prop :=
  ∃ val reads writes, OpS P o ρ val reads writes ∧ (∀ p ∈ reads, h.get p.1 = .live p.2) ∧ (∀ p ∈ writes, (∃ ob, (p.1, ob) ∈ reads) ∨ h.get p.1 = .free) ∧ K val reads writes

theorem Snd.pure {P : Program} {o : Oper} {ρ : Operand → AV} {h : AHeap} {K : Kont} {val : AV} (hk : K val [] [])
    (hs : ∀ (μ : LMap) (w : World) (a : Act), (∀ x ∈ o.op.operands, RepV μ (ρ x) (a.eval x)) → ∃ v, (execOp a.eval o).run P w = .ok (.value v) w ∧ RepV μ val v) : Snd P o ρ h K :=
  ⟨val, [], [], OpS.pure hs, by simp, by simp, hk⟩

section
variable {P : Program} {o : Oper} {ρ : Operand → AV} {h : AHeap} {K : Kont}

theorem snd_move {x : Operand} (ho : o.op = .move x ∨ o.op = .assign x) (hk : K (ρ x) [] []) : Snd P o ρ h K := by
  refine Snd.pure hk fun μ w a hops => ?_
  rcases ho with ho | ho <;> exact ⟨a.eval x, by simp [execOp, ho], hops x (by simp [ho, Op.operands])⟩

theorem snd_pick {c a b : Operand} (ho : o.op = .pick c a b) {t : Bool} (hc : ρ c = .c (.bool t)) (h1 : t = true → K (ρ a) [] []) (h2 : t = false → K (ρ b) [] []) : Snd P o ρ h K := by
  cases t with
  | true =>
    refine Snd.pure (h1 rfl) fun μ w ac hops => ?_
    have hv := hops c (by simp [ho, Op.operands])
    rw [hc] at hv
    have : ac.eval c = .bool true := hv.c_inv
    exact ⟨ac.eval a, by simp [execOp, ho, this, asBool], hops a (by simp [ho, Op.operands])⟩
  | false =>
    refine Snd.pure (h2 rfl) fun μ w ac hops => ?_
    have hv := hops c (by simp [ho, Op.operands])
    rw [hc] at hv
    have : ac.eval c = .bool false := hv.c_inv
    exact ⟨ac.eval b, by simp [execOp, ho, this, asBool], hops b (by simp [ho, Op.operands])⟩

/-- An operation that lays one new block. -/
theorem snd_new {val : AV} {cells : List Cell} (hk : K val [] [(h.nxt, .live ⟨cells, true⟩)])
    (hs : ∀ (μ : LMap) (w : World) (a : Act), (∀ x ∈ o.op.operands, RepV μ (ρ x) (a.eval x)) → ∃ v C elem, (execOp a.eval o).run P w = .ok (.value v) (w.alloc (.cells C elem)) ∧
      (∀ (j : Nat) (x : Cell), cells[j]? = some x → ∃ u, C[j]? = some u ∧ RepC μ x u) ∧ RepV (upd μ h.nxt (some ⟨w.heap.size, 0, C.size, true⟩)) val v) : Snd P o ρ h K := by
  refine ⟨val, [], [(h.nxt, .live ⟨cells, true⟩)], ?_, by simp, fun p hp => by simp at hp; subst hp; exact .inr h.get_nxt, hk⟩
  intro B μ G w a next Q hR _ _ hw hops hn
  have hfree : G h.nxt = .free := by
    rcases hw _ (List.mem_singleton.2 rfl) with ⟨ob, hob⟩ | hf
    · cases hob
    · exact hf
  obtain ⟨v, C, elem, hrun, hC, hv⟩ := hs μ w a hops
  refine wp_value hrun (hn v _ _ (LMap.le_upd (hR.free _ hfree)) hv (hR.alloc hfree C elem cells hC) ?_)
  exact (Below.refl _ _).alloc hR.size _

theorem snd_alloc {e : TypeId} (ho : o.op = .alloc e) {ti : TyI} (ht : tyOf P e = some ti) (hk : K (.c (.ptr h.nxt 0)) [] [(h.nxt, .live ⟨ti.zero, true⟩)]) : Snd P o ρ h K := by
  obtain ⟨i, d, z, hi, hd, hz, hzc, _⟩ := tyOf_spec ht
  refine snd_new hk fun μ w a _ => ⟨_, z.cells, e, ?_, fun j x hx => ?_, .c ⟨_, upd_same _ _ _, rfl⟩⟩
  · simp [execOp, ho, Instr.alloc, zeroValue, typeInfo, hi, hz, newVar, newRow]
  · simpa using (cellsOfL_rep hzc).get j x hx

theorem snd_box {t : TypeId} {x : Operand} (ho : o.op = .box t x) {cs : List Cell} (hc : (ρ x).cells = some cs) (hk : K (.c (.ptr h.nxt 0)) [] [(h.nxt, .live ⟨cs, true⟩)]) : Snd P o ρ h K := by
  refine snd_new hk fun μ w a hops => ?_
  have hv := hops x (by simp [ho, Op.operands])
  refine ⟨_, (a.eval x).cells, t, by simp [execOp, ho, Instr.box, newVar, newRow], fun j y hy => ?_, .c ⟨_, upd_same _ _ _, rfl⟩⟩
  simpa using (hv.cells_inv hc).get j y hy

theorem reps_of_obj {μ : LMap} {C : Array Value} {base : Nat} {cells : List Cell} (h3 : ∀ (j : Nat) (x : Cell), cells[j]? = some x → ∃ v, C[base + j]? = some v ∧ RepC μ x v) (off n : Nat) (hle : off + n ≤ cells.length) :
    RepCs μ ((cells.drop off).take n) ((C.toList.drop (base + off)).take n) ∧ ((C.toList.drop (base + off)).take n).length = n := by
  have hlen : base + off + n ≤ C.size ∨ n = 0 := by
    rcases Nat.eq_zero_or_pos n with h0 | hp
    · exact .inr h0
    · have : off + n - 1 < cells.length := by omega
      obtain ⟨v, hv, _⟩ := h3 (off + n - 1) cells[off + n - 1] (List.getElem?_eq_getElem this)
      have := (Array.getElem?_eq_some_iff.1 hv).1
      exact .inl (by omega)
  have hl : ((C.toList.drop (base + off)).take n).length = n := by
    rcases hlen with h | h
    · simp; omega
    · simp [h]
  refine ⟨RepCs.mk (by rw [hl]; simp; omega) fun j c hc => ?_, hl⟩
  simp only [List.getElem?_take, List.getElem?_drop] at hc ⊢
  split at hc
  · rename_i hj
    obtain ⟨v, hv, hr⟩ := h3 _ _ hc
    refine ⟨v, ?_, hr⟩
    simp only [hj, if_true]
    rw [← Nat.add_assoc] at hv
    simpa using hv
  · cases hc

theorem run_loadVar_obj {μ : LMap} {B : Nat} {G : Heap} {w : World} (hR : Rel B μ G w) {k off : Nat} {ob : AObj} (hk : G k = .live ob) {l : Loc} (hl : μ k = some l) {t : TypeId} {ti : TyI} (ht : tyOf P t = some ti) :
    if ti.agg then (off + ti.size ≤ ob.cells.length → ∃ vs : List Value, (loadVar t ⟨l.b, l.base + off, none⟩).run P w = .ok (.agg vs.toArray) w ∧ RepCs μ ((ob.cells.drop off).take ti.size) vs)
    else ∀ c, ob.cells[off]? = some c → ∃ v, (loadVar t ⟨l.b, l.base + off, none⟩).run P w = .ok v w ∧ RepC μ c v := by
  obtain ⟨i, d, z, hi, hd, hz, hzc, hsz, _, hagg, _⟩ := tyOf_spec ht
  obtain ⟨l', hl', hob⟩ := hR.obj k ob hk
  rw [hl] at hl'; cases hl'
  have hisAgg : (isAgg t).run P w = .ok ti.agg w := by
    rw [hagg]
    simp only [isAgg, Sem.run_bind, run_underlying hd, Result.andThen_ok]
    cases d <;> rfl
  cases hA : ti.agg with
  | true =>
    simp only [if_true]
    intro hle
    have hsize : (sizeOf t).run P w = .ok ti.size w := by simp [sizeOf, typeInfo, hi, hsz]
    cases hr : l.real with
    | false =>
      simp only [ObjAt, hr, Bool.false_eq_true, if_false] at hob
      rw [hob] at hle
      simp at hle
      refine ⟨[], ?_, by simp [hle.2, RepCs]⟩
      simp [loadVar, hisAgg, hA, hsize, hle.2, loadCells, loadCellsFrom]
    | true =>
      simp only [ObjAt, hr, if_true] at hob
      obtain ⟨C, elem, fz, h1, h2, h3, _⟩ := hob
      obtain ⟨hreps, hlen⟩ := reps_of_obj h3 off ti.size hle
      refine ⟨_, ?_, hreps⟩
      have hrun := run_loadCells_list (P := P) w ⟨l.b, l.base + off, none⟩ ((C.toList.drop (l.base + off)).take ti.size) (fun j v hv => by
        simp only [List.getElem?_take, List.getElem?_drop] at hv
        split at hv
        · rw [Addr.add_lit]
          simpa [World.cell?, h1] using hv
        · cases hv)
      rw [hlen] at hrun
      simp [loadVar, hisAgg, hA, hsize, hrun]
  | false =>
    simp only [Bool.false_eq_true, if_false]
    intro c hc
    have hreal : l.real = true := by
      cases hr : l.real with
      | true => rfl
      | false =>
        simp only [ObjAt, hr, Bool.false_eq_true, if_false] at hob
        rw [hob] at hc; simp at hc
    simp only [ObjAt, hreal, if_true] at hob
    obtain ⟨C, elem, fz, h1, h2, h3, _⟩ := hob
    obtain ⟨v, hv, hrep⟩ := h3 off c hc
    refine ⟨v, ?_, hrep⟩
    have hcell : w.cell? ⟨l.b, l.base + off, none⟩ = some v := by simp [World.cell?, h1, hv]
    simp [loadVar, hisAgg, hA, hcell]

theorem snd_load {t : TypeId} {x : Operand} (ho : o.op = .load t x) {ti : TyI} (ht : tyOf P t = some ti) {k off : Nat} (hx : ρ x = .c (.ptr k off)) {ob : AObj} (hk : h.get k = .live ob) {val : AV}
    (hval : if ti.agg then off + ti.size ≤ ob.cells.length ∧ val = .agg ((ob.cells.drop off).take ti.size) else ∃ c, ob.cells[off]? = some c ∧ val = .c c) (hK : K val [(k, ob)] []) : Snd P o ρ h K := by
  refine ⟨val, [(k, ob)], [], ?_, fun p hp => by simp at hp; subst hp; exact hk, by simp, hK⟩
  intro B μ G w a next Q hR _ hreads _ hops hn
  have hG := hreads (k, ob) (by simp)
  have hv := hops x (by simp [ho, Op.operands])
  rw [hx] at hv
  obtain ⟨l, hl, he⟩ := hv.c_inv
  have hrun := run_loadVar_obj hR hG hl (off := off) ht
  have hex : execOp a.eval o = (do pure (Next.value (← Instr.loadAt t (a.eval x)))) := by simp [execOp, ho]
  have hat : (Instr.loadAt t (a.eval x)).run P w = (loadVar t ⟨l.b, l.base + off, none⟩).run P w := by
    rw [he]; simp [Instr.loadAt, Instr.sureAddr]
  cases hA : ti.agg with
  | true =>
    rw [hA] at hval hrun
    simp only [if_true] at hval hrun
    obtain ⟨vs, h1, h2⟩ := hrun hval.1
    refine wp_value (v := .agg vs.toArray) (by rw [hex]; simp [hat, h1]) (hn _ μ w (LMap.le_refl _) ?_ hR (Below.refl _ _))
    rw [hval.2]; exact .agg h2
  | false =>
    rw [hA] at hval hrun
    simp only [Bool.false_eq_true, if_false] at hval hrun
    obtain ⟨c, hc, hv'⟩ := hval
    obtain ⟨v, h1, h2⟩ := hrun c hc
    refine wp_value (v := v) (by rw [hex]; simp [hat, h1]) (hn _ μ w (LMap.le_refl _) ?_ hR (Below.refl _ _))
    rw [hv']; exact .c h2

/-- New contents of a block, a part of it overwritten. -/
theorem reps_splice {μ : LMap} {C : Array Value} {base : Nat} {cells : List Cell} (h3 : ∀ (j : Nat) (x : Cell), cells[j]? = some x → ∃ v, C[base + j]? = some v ∧ RepC μ x v) {off : Nat} {cs : List Cell} {vs : List Value} (hrep : RepCs μ cs vs)
    (hle : off + cs.length ≤ cells.length) (hC : base + off + cs.length ≤ C.size) : ∀ (j : Nat) (x : Cell), (splice cells off cs)[j]? = some x →
    ∃ v, ((C.toList.take (base + off) ++ vs ++ C.toList.drop (base + off + vs.length)).toArray)[base + j]? = some v ∧ RepC μ x v := by
  intro j x hx
  have hl := hrep.length
  simp only [List.getElem?_toArray]
  simp only [splice, List.append_assoc] at hx ⊢
  rw [List.getElem?_append] at hx
  have ht : (cells.take off).length = off := by simp; omega
  have ht' : (C.toList.take (base + off)).length = base + off := by simp; omega
  rw [ht] at hx
  rw [List.getElem?_append, ht']
  split at hx
  · rename_i hj
    rw [List.getElem?_take, if_pos hj] at hx
    rw [if_pos (by omega), List.getElem?_take, if_pos (by omega)]
    obtain ⟨v, hv, hr⟩ := h3 j x hx
    exact ⟨v, by simpa using hv, hr⟩
  · rename_i hj
    rw [if_neg (by omega)]
    rw [List.getElem?_append] at hx ⊢
    rw [show base + j - (base + off) = j - off from by omega, ← hl]
    split at hx
    · rename_i hj2
      rw [if_pos hj2]
      exact hrep.get _ _ hx
    · rename_i hj2
      rw [if_neg hj2]
      rw [List.getElem?_drop] at hx ⊢
      rw [show off + cs.length + (j - off - cs.length) = j from by omega] at hx
      obtain ⟨v, hv, hr⟩ := h3 j x hx
      rw [show base + off + cs.length + (j - off - cs.length) = base + j from by omega]
      exact ⟨v, by simpa using hv, hr⟩

theorem snd_store {t : TypeId} {x y : Operand} (ho : o.op = .store t x y) {ti : TyI} (ht : tyOf P t = some ti) {k off : Nat} (hx : ρ x = .c (.ptr k off)) {ob : AObj} (hk : h.get k = .live ob) (hown : ob.own = true)
    {cs : List Cell} (hc : (ρ y).cells = some cs) (hl : cs.length = ti.size) (hle : off + cs.length ≤ ob.cells.length) (hK : K .any [(k, ob)] [(k, .live ⟨splice ob.cells off cs, true⟩)]) : Snd P o ρ h K := by
  refine ⟨.any, [(k, ob)], [(k, .live ⟨splice ob.cells off cs, true⟩)], ?_, fun p hp => by simp at hp; subst hp; exact hk, fun p hp => by simp at hp; subst hp; exact .inl ⟨ob, by simp⟩, hK⟩
  intro B μ G w a next Q hR _ hreads _ hops hn
  have hG := hreads (k, ob) (by simp)
  have hv := hops x (by simp [ho, Op.operands])
  rw [hx] at hv
  obtain ⟨l, hl2, he⟩ := hv.c_inv
  have hy := (hops y (by simp [ho, Op.operands])).cells_inv hc
  obtain ⟨i, d, z, hi, hd, hz, hzc, hsz, _, hagg, _⟩ := tyOf_spec ht
  obtain ⟨l', hl', hob⟩ := hR.obj k ob hG
  simp only at hl2
  rw [hl2] at hl'; cases hl'
  have hvl := hy.length
  have hsize : (sizeOf t).run P w = .ok (a.eval y).cells.toList.length w := by simp [sizeOf, typeInfo, hi, ← hvl, hl, hsz]
  have hex : execOp a.eval o = (do Instr.storeAt t (a.eval x) (a.eval y); pure .skip) := by simp [execOp, ho]
  have hat : (Instr.storeAt t (a.eval x) (a.eval y)).run P w = (storeCells ⟨l.b, l.base + off, none⟩ (a.eval y).cells.toList).run P w := by
    rw [he]; simp at hsize; simp [Instr.storeAt, Instr.sureAddr, storeVar, hsize]
  cases hr : l.real with
  | false =>
    have hob' := hob
    simp only [ObjAt, hr, Bool.false_eq_true, if_false] at hob'
    have hcs0 : cs = [] := by
      rw [hob'] at hle; simp at hle
      exact hle.2
    have hvs0 : (a.eval y).cells.toList = [] := by
      have := hvl; rw [hcs0] at this; simpa using this.symm
    rw [hvs0] at hat
    refine wp_skip' (w' := w) (by rw [hex]; simp [hat, storeCells]) (hn undef μ w (LMap.le_refl _) .any ?_ (Below.refl _ _))
    have e : putsG G [(k, .live ⟨splice ob.cells off cs, true⟩)] = G := by
      funext j
      show upd G k _ j = G j
      by_cases ej : j = k
      · subst ej
        rw [upd_same, hG, hcs0, hob']
        simp [splice]
        cases ob; simp_all
      · rw [upd_ne _ _ ej]
    rw [e]; exact hR
  | true =>
    simp only [ObjAt, hr, hown, if_true] at hob
    obtain ⟨C, elem, fz, h1, h2, h3, rfl, h5⟩ := hob
    have hC : l.base + off + cs.length ≤ C.size ∨ cs = [] := by
      rcases Nat.eq_zero_or_pos cs.length with h0 | hp
      · exact .inr (List.length_eq_zero_iff.1 h0)
      · have : off + cs.length - 1 < ob.cells.length := by omega
        obtain ⟨v, hv, _⟩ := h3 (off + cs.length - 1) ob.cells[off + cs.length - 1] (List.getElem?_eq_getElem this)
        have := (Array.getElem?_eq_some_iff.1 hv).1
        exact .inl (by omega)
    rcases hC with hC | hcs0
    · have hst := run_storeCells_at P l.b (l.base + off) elem (a.eval y).cells.toList 0 C w h1 (by rw [← hvl]; simpa using hC) hy.oneCell
      refine wp_skip' (w' := _) (by rw [hex]; simp only [Sem.run_bind, hat, hst, Result.andThen_ok, Sem.run_pure]; rfl) (hn undef μ _ (LMap.le_refl _) .any ?_ ?_)
      · refine hR.write hG hown hl2 hr _ ?_ _ ?_
        · simp [← h2]; simp at hvl; omega
        · simpa using reps_splice h3 hy hle hC
      · refine ⟨rfl, rfl, rfl, by simp, fun j hj => setRow_other w _ _ _ (by omega)⟩
    · have hvs0 : (a.eval y).cells.toList = [] := by
        have := hvl; rw [hcs0] at this; simpa using this.symm
      rw [hvs0] at hat
      refine wp_skip' (w' := w) (by rw [hex]; simp [hat, storeCells]) (hn undef μ w (LMap.le_refl _) .any ?_ (Below.refl _ _))
      have e : putsG G [(k, .live ⟨splice ob.cells off cs, true⟩)] = G := by
        funext j
        show upd G k _ j = G j
        by_cases ej : j = k
        · subst ej
          rw [upd_same, hG, hcs0]
          simp [splice]
          cases ob; simp_all
        · rw [upd_ne _ _ ej]
      rw [e]; exact hR
end
end Go.Abs



/- More operations: aggregates, numbers, addresses. -/
namespace Go.Abs
open Go.RowKit (Below)

theorem foldl_set (off : Nat) : ∀ (vs : List Value) (s : Nat) (C : Array Value), off + s + vs.length ≤ C.size →
    (vs.zipIdx s).foldl (fun cs (x : Value × Nat) => cs.setIfInBounds (off + x.2) x.1) C = (C.toList.take (off + s) ++ vs ++ C.toList.drop (off + s + vs.length)).toArray
  | [], s, C, _ => by simp
  | v :: vs, s, C, h => by
    have hi : off + s < C.size := by simp at h; omega
    rw [List.zipIdx_cons, List.foldl_cons, foldl_set off vs (s + 1) _ (by simp at h ⊢; omega)]
    congr 1
    have e := list_seg_step C.toList (off + s) v vs (by simp at h ⊢; omega)
    simpa [Array.toList_setIfInBounds, Nat.add_assoc] using e

/-- What 'fill' makes of represented parts. -/
theorem fill_rep {μ : LMap} {place : Nat → Option (Nat × Nat)} : ∀ {parts : List (Nat × AV)} {vparts : List (Nat × Value)} {cells out : List Cell} {C : Array Value},
    parts.length = vparts.length → (∀ (i : Nat) p v, parts[i]? = some p → vparts[i]? = some v → p.1 = v.1 ∧ RepV μ p.2 v.2) → RepCs μ cells C.toList → fillC place cells parts = some out →
    ∃ D, Instr.fill place C vparts = some D ∧ RepCs μ out D.toList
  | [], [], cells, out, C, _, _, hr, h => by simp [fillC] at h; subst h; exact ⟨C, rfl, hr⟩
  | (i, x) :: parts, (i', v) :: vparts, cells, out, C, hl, hp, hr, h => by
    obtain ⟨h1, h2⟩ := hp 0 (i, x) (i', v) rfl rfl
    simp only at h1 h2
    subst h1
    simp only [fillC] at h
    split at h
    · rename_i off size vs hpl hc
      split at h
      · rename_i hcond
        have hv := h2.cells_inv hc
        have hvl := hv.length
        have hrl := hr.length
        have hcs : v.cells.size = vs.length := by simpa using hvl.symm
        have hfit : ¬ (v.cells.size ≠ size || decide (off + v.cells.size > C.size)) = true := by
          simp at hrl
          simp; omega
        simp only [Instr.fill, hpl, hfit]
        have hfold : (v.cells.zipIdx.foldl (fun cs (x : Value × Nat) => cs.setIfInBounds (off + x.2) x.1) C) = (C.toList.take off ++ v.cells.toList ++ C.toList.drop (off + v.cells.toList.length)).toArray := by
          have := foldl_set off v.cells.toList 0 C (by simp at hrl; simp; omega)
          rw [← Array.foldl_toList, Array.toList_zipIdx]
          simpa using this
        rw [hfold]
        refine fill_rep (by simpa using hl) (fun j p u hj hu => hp (j + 1) p u (by simpa using hj) (by simpa using hu)) ?_ h
        have hsp := reps_splice (base := 0) (C := C) (cells := cells) (off := off) (fun j x hx => by
          obtain ⟨u, hu, hrep⟩ := hr.get j x hx
          exact ⟨u, by simpa using hu, hrep⟩) hv (by omega) (by simp at hrl; omega)
        refine RepCs.mk ?_ fun j c hc => ?_
        · rw [length_splice (by omega)]
          simp at hrl
          simp; omega
        · simpa using hsp j c hc
      · cases h
    · cases h
  | [], _ :: _, _, _, _, hl, _, _, _ => by simp at hl
  | _ :: _, [], _, _, _, hl, _, _, _ => by simp at hl

theorem replicate_flatten_get {μ : LMap} {ez : List Cell} {zs : Array Value} (h : RepCs μ ez zs.toList) (n : Nat) :
    RepCs μ (List.replicate n ez).flatten ((Array.range (n * zs.size)).map (zs[· % zs.size]!)).toList := by
  have hl := h.length
  simp at hl
  refine RepCs.mk (by simp [hl]) fun j c hc => ?_
  have hj : j < n * zs.size := by
    have := (List.getElem?_eq_some_iff.1 hc).1
    simpa [hl] using this
  have hpos : 0 < zs.size := by
    rcases Nat.eq_zero_or_pos zs.size with h0 | h0
    · rw [h0] at hj; omega
    · exact h0
  have hm : j % zs.size < zs.size := Nat.mod_lt _ hpos
  refine ⟨zs[j % zs.size]!, by simp [hj], ?_⟩
  have hcz : ez[j % zs.size]? = some c := by
    have key : ∀ (n j : Nat), (List.replicate n ez).flatten[j]? = some c → ez[j % zs.size]? = some c := by
      intro n
      induction n with
      | zero => intro j h; simp at h
      | succ n ih =>
        intro j h
        rw [List.replicate_succ, List.flatten_cons, List.getElem?_append] at h
        split at h
        · rename_i hlt
          rw [Nat.mod_eq_of_lt (by omega)]; exact h
        · rename_i hge
          have := ih _ h
          rw [hl] at this hge
          rwa [← Nat.mod_eq_sub_mod (by omega)] at this
    exact key n j hc
  obtain ⟨v, hv, hr⟩ := h.get _ _ hcz
  have e : zs[j % zs.size]! = v := by
    rw [getElem!_pos zs _ hm]
    have := hv
    rw [Array.getElem?_toList, Array.getElem?_eq_getElem hm] at this
    simpa using this
  rw [e]; exact hr

section
variable {P : Program} {o : Oper} {ρ : Operand → AV} {h : AHeap} {K : Kont}

theorem parts_rep {μ : LMap} {a : Act} (parts : Array (Nat × Operand)) (hops : ∀ x ∈ (parts.toList.map (·.2)).toArray, RepV μ (ρ x) (a.eval x)) :
    ∀ (i : Nat) p v, (parts.toList.map fun p => (p.1, ρ p.2))[i]? = some p → ((parts.map fun (i, x) => (i, a.eval x)).toList)[i]? = some v → p.1 = v.1 ∧ RepV μ p.2 v.2 := by
  intro i p v h1 h2
  simp only [Array.toList_map, List.getElem?_map, Option.map_eq_some_iff] at h1 h2
  obtain ⟨q, hq, rfl⟩ := h1
  obtain ⟨q', hq', rfl⟩ := h2
  rw [hq] at hq'; cases hq'
  exact ⟨rfl, hops q.2 (by simp; exact ⟨q.1, by
    have := List.mem_of_getElem? hq
    simpa using this⟩)⟩

theorem snd_build {t : TypeId} {parts : Array (Nat × Operand)} (ho : o.op = .build t parts) {ti : TyI} (ht : tyOf P t = some ti) (hpl : isPlace ti.kind = true) {cs : List Cell}
    (hf : fillC (placeOf ti.kind) ti.zero (parts.toList.map fun p => (p.1, ρ p.2)) = some cs) (hk : K (.agg cs) [] []) : Snd P o ρ h K := by
  obtain ⟨i, d, z, hi, hd, hz, hzc, hsz, _, hag, hkd⟩ := tyOf_spec ht
  refine Snd.pure hk fun μ w a hops => ?_
  have hops' : ∀ x ∈ (parts.toList.map (·.2)).toArray, RepV μ (ρ x) (a.eval x) := by
    intro x hx; exact hops x (by rw [ho]; exact hx)
  have hp := parts_rep parts hops'
  obtain ⟨D, hD, hrep⟩ := fill_rep (C := z.cells) (by simp) hp (cellsOfL_rep hzc) hf
  have hb : P.built t (parts.map fun (i, x) => (i, a.eval x)).toList = some D := by
    unfold Program.built
    rw [hkd] at hD hpl
    cases hk2 : kindOf P t <;> simp only [hk2, isPlace, Bool.false_eq_true] at hpl
    case struct l =>
      obtain ⟨fs', h1, h2⟩ := kind_struct hk2
      rw [hk2] at hD
      have e : placeOf (.struct l) = fun x => l[x]? := by funext x; rfl
      rw [e] at hD
      simp only [hi, h1, hz, h2]
      simpa using hD
    case array n es ea =>
      obtain ⟨e, ie, d', h1, h2, h3, _⟩ := kind_array hk2
      rw [hk2] at hD
      have e' : placeOf (.array n es ea) = fun i => some (i * es, es) := by funext x; rfl
      rw [e', ← h3] at hD
      simp only [hi, h1, hz, h2]
      simpa using hD
  have hrun := run_build (P := P) w t _ D hb
  exact ⟨.agg D, by simp [execOp, ho, hrun], by simpa using RepV.agg hrep⟩

theorem snd_buildSlice {t : TypeId} {len : Nat} {parts : Array (Nat × Operand)} (ho : o.op = .buildSlice t len parts) {ti : TyI} (ht : tyOf P t = some ti) {es eb : Nat} {ez cs : List Cell} (hkd : ti.kind = .slice es eb ez) (hez : ez.length = es) (hsm : len * es ≤ 16777216)
    (hf : fillC (fun i => some (i * es, es)) (List.replicate len ez).flatten (parts.toList.map fun p => (p.1, ρ p.2)) = some cs) (hk : K (.c (.slice h.nxt 0 len es)) [] [(h.nxt, .live ⟨cs, true⟩)]) : Snd P o ρ h K := by
  obtain ⟨i, d, z0, hi, hd, hz0, hzc0, hsz, _, hag, hkd'⟩ := tyOf_spec ht
  rw [hkd'] at hkd
  obtain ⟨e, ie, z, hu, hie, hes, heb, hz, hzc⟩ := kind_slice hkd
  refine snd_new hk fun μ w a hops => ?_
  have hops' : ∀ x ∈ (parts.toList.map (·.2)).toArray, RepV μ (ρ x) (a.eval x) := by
    intro x hx; exact hops x (by rw [ho]; exact hx)
  have hp := parts_rep parts hops'
  have hzr := cellsOfL_rep (μ := μ) hzc
  have hzl : z.cells.size = es := by have := hzr.length; simp at this; omega
  obtain ⟨D, hD, hrep⟩ := fill_rep (by simp) hp (replicate_flatten_get hzr len) hf
  have hDl : D.size = len * es := by
    have h1 := hrep.length
    have h2 : cs.length = len * es := by
      have key : ∀ (parts : List (Nat × AV)) (cells out : List Cell), fillC (fun i => some (i * es, es)) cells parts = some out → out.length = cells.length := by
        intro parts
        induction parts with
        | nil => intro cells out h; simp [fillC] at h; rw [h]
        | cons p parts ih =>
          intro cells out h
          obtain ⟨i, v⟩ := p
          simp only [fillC] at h
          split at h
          · split at h
            · rename_i hc
              rw [ih _ _ h, length_splice hc.2]
            · cases h
          · cases h
      rw [key _ _ _ hf]; simp [hez]
    simp at h1; omega
  refine ⟨_, D, e, ?_, fun j x hx => by simpa using hrep.get j x hx, .c ⟨_, some ⟨w.heap.size, 0, none⟩, len, upd_same _ _ _, rfl, Nat.le_refl _, .inr ⟨0, rfl, rfl, by simp [hDl], .inr rfl⟩⟩⟩
  have hsmall : ¬ len * ie.size > 2 ^ 24 := by rw [hes]; simp; omega
  have e0 : ∀ g : Nat → Value, (Array.range 0).map g = #[] := fun _ => by apply Array.eq_empty_of_size_eq_zero; simp
  by_cases h0 : len * ie.size = 0
  · have hD' : Instr.fill (fun i => some (i * ie.size, ie.size)) #[] (parts.map fun (i, x) => (i, a.eval x)).toList = some D := by
      rw [hes] at h0 ⊢
      rw [hzl, h0, e0] at hD
      exact hD
    simp at hD'
    simp [execOp, ho, Instr.buildSlice, run_underlying hu, sizeOf, typeInfo, hie, h0, e0, hD', newRow]
  · have hD' : Instr.fill (fun i => some (i * ie.size, ie.size)) ((Array.range (len * ie.size)).map (z.cells[· % z.cells.size]!)) (parts.map fun (i, x) => (i, a.eval x)).toList = some D := by
      rw [hes, ← hzl]; rw [← hzl] at hD; exact hD
    simp at hD'
    simp [execOp, ho, Instr.buildSlice, run_underlying hu, sizeOf, typeInfo, zeroValue, hie, hz, hsmall, h0, hD', newRow]

theorem snd_unNot {t : TypeId} {x : Operand} (ho : o.op = .unOp .not t x) {b : Bool} (hx : ρ x = .c (.bool b)) (hk : K (.c (.bool !b)) [] []) : Snd P o ρ h K := by
  refine Snd.pure hk fun μ w a hops => ?_
  have hv := hops x (by simp [ho, Op.operands])
  rw [hx] at hv
  have e : a.eval x = .bool b := hv.c_inv
  exact ⟨.bool !b, by simp [execOp, ho, e, Op.unary], .c rfl⟩
theorem snd_unNeg {t : TypeId} {x : Operand} (ho : o.op = .unOp .neg t x) {k : IntKind} {n : Int} (hx : ρ x = .c (.int k n)) (hk : K (.c (.int k (k.wrap (0 - n)))) [] []) : Snd P o ρ h K := by
  refine Snd.pure hk fun μ w a hops => ?_
  have hv := hops x (by simp [ho, Op.operands])
  rw [hx] at hv
  have e : a.eval x = .int k n := hv.c_inv
  exact ⟨.int k (k.wrap (0 - n)), by simp [execOp, ho, e, Op.unary, Op.intArith], .c rfl⟩

theorem snd_convert {s t : TypeId} {x : Operand} (ho : o.op = .convert s t x) {ti ti' : TyI} (hs : tyOf P s = some ti') (ht : tyOf P t = some ti) {k k' : IntKind} {n : Int} (hkd : ti.kind = .int k) (hx : ρ x = .c (.int k' n)) (hk : K (.c (.int k (k.wrap n))) [] []) : Snd P o ρ h K := by
  obtain ⟨_, d, _, _, hd, _⟩ := tyOf_spec hs
  obtain ⟨_, _, _, _, _, _, _, _, _, _, hkd'⟩ := tyOf_spec ht
  rw [hkd'] at hkd
  have hu := kind_int hkd
  refine Snd.pure hk fun μ w a hops => ?_
  have hv := hops x (by simp [ho, Op.operands])
  rw [hx] at hv
  have e : a.eval x = .int k' n := hv.c_inv
  exact ⟨.int k (k.wrap n), by simp [execOp, ho, e, convert, run_underlying hu, run_underlying hd, Conv.intToInt], .c rfl⟩

theorem ptrs_rep {μ : LMap} : ∀ {as_ : List AV} {ps : List (Nat × Nat)} {vs : List Value}, ptrs as_ = some ps → as_.length = vs.length → (∀ (i : Nat) x v, as_[i]? = some x → vs[i]? = some v → RepV μ x v) → RepPs μ ps vs
  | [], ps, [], h, _, _ => by simp [ptrs] at h; subst h; trivial
  | [], _, _ :: _, _, hl, _ => by simp at hl
  | _ :: _, _, [], _, hl, _ => by simp at hl
  | x :: as_, ps, v :: vs, h, hl, hr => by
    have h0 := hr 0 x v rfl rfl
    cases x with
    | c cc =>
      cases cc with
      | ptr k off =>
        simp only [ptrs, Option.map_eq_some_iff] at h
        obtain ⟨qs, hq, rfl⟩ := h
        exact ⟨h0.c_inv, ptrs_rep hq (by simpa using hl) fun i y u hy hu => hr (i + 1) y u (by simpa using hy) (by simpa using hu)⟩
      | _ => simp [ptrs] at h
    | _ => simp [ptrs] at h

theorem snd_makeFunc {f : FuncId} {first captured : Array Operand} (ho : o.op = .makeFunc (.func f) first captured) (hf : first = #[]) {ps : List (Nat × Nat)} (hp : ptrs (captured.toList.map ρ) = some ps) (hk : K (.c (.fn f ps)) [] []) : Snd P o ρ h K := by
  subst hf
  refine Snd.pure hk fun μ w a hops => ?_
  refine ⟨.func (.func f) #[] (captured.map a.eval), by simp [execOp, ho, Instr.makeFunc], .c ⟨(captured.map a.eval).toList, by rw [Array.toArray_toList], ?_⟩⟩
  refine ptrs_rep hp (by simp) fun i x v hx hv => ?_
  simp only [Array.toList_map, List.getElem?_map, Option.map_eq_some_iff] at hx hv
  obtain ⟨q, hq, rfl⟩ := hx
  obtain ⟨q', hq', rfl⟩ := hv
  rw [hq] at hq'; cases hq'
  exact hops q (by simp [ho, Op.operands]; simpa using List.mem_of_getElem? hq)

theorem snd_nilCheck {x : Operand} (ho : o.op = .nilCheck x) {k off : Nat} (hx : ρ x = .c (.ptr k off)) (hk : K (.c (.ptr k off)) [] []) : Snd P o ρ h K := by
  refine Snd.pure hk fun μ w a hops => ?_
  have hv := hops x (by simp [ho, Op.operands])
  rw [hx] at hv
  obtain ⟨l, hl, e⟩ := hv.c_inv
  exact ⟨a.eval x, by simp [execOp, ho, e], by rw [e]; rw [e] at hv; exact hv⟩

theorem snd_fieldAddr {s : TypeId} {x : Operand} {f : Nat} (ho : o.op = .fieldAddr s x f) {ti : TyI} (ht : tyOf P s = some ti) {fs : List (Nat × Nat)} {off' sz k off : Nat} (hkd : ti.kind = .struct fs) (hf : fs[f]? = some (off', sz)) (hsz : sz ≠ 0)
    (hx : ρ x = .c (.ptr k off)) (hk : K (.c (.ptr k (off + off'))) [] []) : Snd P o ρ h K := by
  obtain ⟨_, _, _, _, _, _, _, _, _, _, hkd'⟩ := tyOf_spec ht
  rw [hkd'] at hkd
  obtain ⟨fields, hu, hm⟩ := kind_struct hkd
  have hfield : ∃ fl i, fields[f]? = some fl ∧ P.info? fl.type = some i ∧ fl.offset = off' ∧ i.size = sz := by
    have key : ∀ (l : List Field) (fs : List (Nat × Nat)) (j : Nat), l.mapM (fun f => (P.info? f.type).map fun i => (f.offset, i.size)) = some fs → fs[j]? = some (off', sz) → ∃ fl i, l[j]? = some fl ∧ P.info? fl.type = some i ∧ fl.offset = off' ∧ i.size = sz := by
      intro l
      induction l with
      | nil => intro fs j h h'; simp at h; subst h; simp at h'
      | cons g l ih =>
        intro fs j h h'
        simp only [List.mapM_cons, Option.bind_eq_bind, Option.pure_def] at h
        cases hi : P.info? g.type with
        | none => simp [hi] at h
        | some i =>
          cases hr : l.mapM (fun f => (P.info? f.type).map fun i => (f.offset, i.size)) with
          | none => simp [hi, hr] at h
          | some rest =>
            simp [hi, hr] at h
            subst h
            cases j with
            | zero => simp at h'; exact ⟨g, i, rfl, hi, h'.1, h'.2⟩
            | succ j => simpa using ih rest j hr (by simpa using h')
    obtain ⟨fl, i, h1, h2, h3, h4⟩ := key fields.toList fs f hm hf
    exact ⟨fl, i, by simpa using h1, h2, h3, h4⟩
  obtain ⟨fl, i, h1, h2, h3, h4⟩ := hfield
  refine Snd.pure hk fun μ w a hops => ?_
  have hv := hops x (by simp [ho, Op.operands])
  rw [hx] at hv
  obtain ⟨l, hl, e⟩ := hv.c_inv
  refine ⟨.pointer (some ⟨l.b, l.base + (off + off'), none⟩), ?_, .c ⟨l, hl, rfl⟩⟩
  have hne : ¬ i.size = 0 := by rw [h4]; exact hsz
  simp [execOp, ho, e, Instr.fieldAt, run_underlying hu, h1, Instr.sureAddr, fieldPlace, sizeOf, typeInfo, h2, hne, Addr.add_lit, h3, Nat.add_assoc]

theorem snd_indexArr {t : TypeId} {x ix : Operand} (ho : o.op = .indexAddr t x ix) {ti : TyI} (ht : tyOf P t = some ti) {n es k off : Nat} {ea : Bool} (hkd : ti.kind = .array n es ea) (hx : ρ x = .c (.ptr k off)) {ki : IntKind} {i : Int} (hix : ρ ix = .c (.int ki i))
    (h0 : 0 ≤ i) (h1 : i < n) (hk : K (.c (.ptr k (off + i.toNat * es))) [] []) : Snd P o ρ h K := by
  obtain ⟨_, _, _, _, _, _, _, _, _, _, hkd'⟩ := tyOf_spec ht
  rw [hkd'] at hkd
  obtain ⟨e, ie, _, hu, hie, hes, _⟩ := kind_array hkd
  refine Snd.pure hk fun μ w a hops => ?_
  have hv := hops x (by simp [ho, Op.operands])
  rw [hx] at hv
  obtain ⟨l, hl, he⟩ := hv.c_inv
  have hv2 := hops ix (by simp [ho, Op.operands])
  rw [hix] at hv2
  have he2 : a.eval ix = .int ki i := hv2.c_inv
  refine ⟨.pointer (some ⟨l.b, l.base + (off + i.toNat * es), none⟩), ?_, .c ⟨l, hl, rfl⟩⟩
  simp [execOp, ho, he, he2, Instr.indexAt, asIntOf, run_underlying hu, Instr.sureAddr, sizeOf, typeInfo, hie, h0, h1, Addr.add_lit, hes, Nat.add_assoc]

theorem snd_indexSl {t : TypeId} {x ix : Operand} (ho : o.op = .indexAddr t x ix) {ti : TyI} (ht : tyOf P t = some ti) {es eb k off len : Nat} {ez : List Cell} (hkd : ti.kind = .slice es eb ez) (hx : ρ x = .c (.slice k off len es)) {ki : IntKind} {i : Int} (hix : ρ ix = .c (.int ki i))
    (h0 : 0 ≤ i) (h1 : i < len) (hk : K (.c (.ptr k (off + i.toNat * es))) [] []) : Snd P o ρ h K := by
  obtain ⟨_, _, _, _, _, _, _, _, _, _, hkd'⟩ := tyOf_spec ht
  rw [hkd'] at hkd
  obtain ⟨e, ie, z, hu, hie, hes, heb, hz, hzc⟩ := kind_slice hkd
  refine Snd.pure hk fun μ w a hops => ?_
  have hv := hops x (by simp [ho, Op.operands])
  rw [hx] at hv
  obtain ⟨l, p, cap, hl, he, hle, hc⟩ := hv.c_inv
  have hv2 := hops ix (by simp [ho, Op.operands])
  rw [hix] at hv2
  have he2 : a.eval ix = .int ki i := hv2.c_inv
  rcases hc with ⟨hl0, _⟩ | ⟨y, rfl, hr, hfit, hy⟩
  · omega
  · rcases hy with hl0 | rfl
    · omega
    · refine ⟨.pointer (some ⟨l.b, l.base + (off + i.toNat * es), none⟩), ?_, .c ⟨l, hl, rfl⟩⟩
      simp [execOp, ho, he, he2, Instr.indexAt, asIntOf, run_underlying hu, sizeOf, typeInfo, hie, h0, h1, Addr.add_lit, hes, Nat.add_assoc]

theorem snd_index {t : TypeId} {x ix : Operand} (ho : o.op = .index t x ix) {ti : TyI} (ht : tyOf P t = some ti) {n es : Nat} {ea : Bool} (hkd : ti.kind = .array n es ea) {cs : List Cell} (hx : ρ x = .agg cs) {ki : IntKind} {i : Int} (hix : ρ ix = .c (.int ki i))
    (h0 : 0 ≤ i) (h1 : i < n) {val : AV} (hval : if ea then i.toNat * es + es ≤ cs.length ∧ val = .agg ((cs.drop (i.toNat * es)).take es) else ∃ c, cs[i.toNat * es]? = some c ∧ val = .c c) (hk : K val [] []) : Snd P o ρ h K := by
  obtain ⟨_, _, _, _, _, _, _, _, _, _, hkd'⟩ := tyOf_spec ht
  rw [hkd'] at hkd
  obtain ⟨e, ie, d, hu, hie, hes, hd, hea⟩ := kind_array hkd
  refine Snd.pure hk fun μ w a hops => ?_
  have hv := hops x (by simp [ho, Op.operands])
  rw [hx] at hv
  obtain ⟨vs, he, hr⟩ := hv.agg_inv
  have hv2 := hops ix (by simp [ho, Op.operands])
  rw [hix] at hv2
  have he2 : a.eval ix = .int ki i := hv2.c_inv
  have hisAgg : (isAgg e).run P w = .ok ea w := by
    rw [hea]
    unfold isAggT
    simp only [isAgg, Sem.run_bind, run_underlying hd, Result.andThen_ok, hd]
    cases d <;> rfl
  have hex : (execOp a.eval o).run P w = ((part e vs.toArray (i.toNat * es)).run P w).andThen fun v w' => .ok (.value v) w' := by
    simp [execOp, ho, he, he2, Instr.index, asIntOf, run_underlying hu, sizeOf, typeInfo, hie, h0, h1, hes]
  cases hE : ea with
  | true =>
    rw [hE] at hval hisAgg
    simp only [if_true] at hval
    refine ⟨.agg (vs.toArray.extract (i.toNat * es) (i.toNat * es + es)), ?_, ?_⟩
    · rw [hex]; simp [part, hisAgg, sizeOf, typeInfo, hie, hes]
    · rw [hval.2]
      have e1 : vs.toArray.extract (i.toNat * es) (i.toNat * es + es) = ((vs.drop (i.toNat * es)).take es).toArray := by
        apply Array.ext'
        simp [List.extract_eq_take_drop]
      rw [e1]
      refine .agg (RepCs.mk (by have := hr.length; simp; omega) fun j c hc => ?_)
      simp only [List.getElem?_take, List.getElem?_drop] at hc ⊢
      split at hc
      · rename_i hj
        rw [if_pos hj]; exact hr.get _ _ hc
      · cases hc
  | false =>
    rw [hE] at hval hisAgg
    simp only [Bool.false_eq_true, if_false] at hval
    obtain ⟨c, hc, rfl⟩ := hval
    obtain ⟨v, hv3, hrep⟩ := hr.get _ _ hc
    refine ⟨v, ?_, .c hrep⟩
    rw [hex]; simp [part, hisAgg, hv3]

theorem snd_extract {x : Operand} {i : Nat} (ho : o.op = .extract x i) {vs : List AV} {v : AV} (hx : ρ x = .tup vs) (hi : vs[i]? = some v) (hk : K v [] []) : Snd P o ρ h K := by
  refine Snd.pure hk fun μ w a hops => ?_
  have hv := hops x (by simp [ho, Op.operands])
  rw [hx] at hv
  obtain ⟨us, he, hl, hr⟩ := hv.tup_inv
  have : i < us.length := by rw [← hl]; exact (List.getElem?_eq_some_iff.1 hi).1
  have h1 : us[i]? = some us[i] := List.getElem?_eq_getElem this
  exact ⟨us[i], by simp [execOp, ho, he, Instr.extract, h1], hr i v _ hi h1⟩

theorem RepVs.of_map {μ : LMap} {a : Act} : ∀ (xs : List Operand) {as_ : List AV} {vs : List Value}, (∀ x ∈ xs, RepV μ (ρ x) (a.eval x)) → RepVs μ as_ vs → RepVs μ (xs.map ρ ++ as_) (xs.map a.eval ++ vs)
  | [], _, _, _, h => h
  | x :: xs, _, _, hx, h => ⟨hx x (by simp), RepVs.of_map xs (fun y hy => hx y (by simp [hy])) h⟩
theorem RepVs.of_caps {μ : LMap} : ∀ {ps : List (Nat × Nat)} {vs : List Value}, RepPs μ ps vs → RepVs μ (ps.map fun p => .c (.ptr p.1 p.2)) vs
  | [], [], _ => trivial
  | _ :: _, _ :: _, h => ⟨.c h.1, RepVs.of_caps h.2⟩
  | [], _ :: _, h => h.elim
  | _ :: _, [], h => h.elim

theorem snd_call {c : Call} (ho : o.op = .call c) {f : Operand} (hc : c.callee = .value f) {g : FuncId} {caps : List (Nat × Nat)} (hf : ρ f = .c (.fn g caps)) (hk : callE P g (c.args.toList.map ρ ++ caps.map fun p => .c (.ptr p.1 p.2)) h K) : Snd P o ρ h K := by
  obtain ⟨val, reads, writes, hspec, h1, h2, hK⟩ := hk
  refine ⟨val, reads, writes, ?_, h1, h2, hK⟩
  intro B μ G w a next Q hR hfin hreads hwrites hops hn
  have hv := hops f (by simp [ho, Op.operands, Call.operands, hc])
  rw [hf] at hv
  obtain ⟨vs, he, hps⟩ := hv.c_inv
  obtain ⟨hcall, hcalls⟩ := hspec
  have hargs : RepVs μ (c.args.toList.map ρ ++ caps.map fun p => .c (.ptr p.1 p.2)) ((c.args.map a.eval).toList ++ vs) := by
    rw [Array.toList_map]
    exact RepVs.of_map _ (fun x hx => hops x (by simp [ho, Op.operands, Call.operands]; right; simpa using hx)) (RepVs.of_caps hps)
  have hc' := hcalls B μ G w _ hR hfin hreads hwrites hargs
  have hrun : (execOp a.eval o).run P w = .ok (.enter g ((c.args.map a.eval).toList ++ vs).toArray) w := by
    unfold callable at hcall
    split at hcall
    · rename_i fn hfn
      simp only [Bool.and_eq_true, Bool.not_eq_true', beq_eq_false_iff_ne, ne_eq] at hcall
      have hname : ¬ fn.name = "runtime.NumGoroutine" := by simpa using hcall.1
      have hbody : ¬ fn.body = none := by
        intro hb; rw [hb] at hcall; simp at hcall
      have eargs : #[] ++ Array.map a.eval c.args ++ vs.toArray = ((c.args.map a.eval).toList ++ vs).toArray := by
        apply Array.ext'; simp
      simp [execOp, ho, resolve, hc, he, Deferred.ofValue, invoke, callFunc, hfn, hname, hbody]
    · cases hcall
  unfold Oper.wp
  rw [hrun]
  refine hc'.mono ?_
  rintro e w' ⟨v, μ', rfl, hle, hval, hrel, hbel⟩
  exact hn v μ' w' hle hval hrel hbel

theorem snd_len {c : Call} (ho : o.op = .call c) (hc : c.callee = .builtin .len) {t : TypeId} {x : Operand} (hat : c.argTypes = #[t]) (hax : c.args = #[x]) {ti : TyI} (ht : tyOf P t = some ti)
    (hk : match ti.kind, ρ x with
        | .slice _ _ _, .c (.slice _ _ len _) => K (.c (.int .i64 len)) [] []
        | .slice _ _ _, .c .nils => K (.c (.int .i64 0)) [] []
        | .array n _ _, _ => K (.c (.int .i64 n)) [] []
        | .str, .c (.str s) => K (.c (.int .i64 s.size)) [] []
        | _, _ => False) : Snd P o ρ h K := by
  obtain ⟨_, _, _, _, _, _, _, _, _, _, hkd'⟩ := tyOf_spec ht
  have hop : x ∈ o.op.operands := by simp [ho, Op.operands, Call.operands, hc, hax]
  split at hk
  · rename_i es eb ez k off len es2 hkd hx
    rw [hkd'] at hkd
    obtain ⟨e, ie, z, hu, _⟩ := kind_slice hkd
    refine Snd.pure hk fun μ w a hops => ?_
    have hv := hops x hop
    rw [hx] at hv
    obtain ⟨l, p, cap, hl, he, _⟩ := hv.c_inv
    exact ⟨.int .i64 len, by simp [execOp, ho, resolve, hc, hat, hax, invoke, builtin, Builtin.len_, he, run_underlying hu, goInt], .c rfl⟩
  · rename_i es eb ez hkd hx
    rw [hkd'] at hkd
    obtain ⟨e, ie, z, hu, _⟩ := kind_slice hkd
    refine Snd.pure hk fun μ w a hops => ?_
    have hv := hops x hop
    rw [hx] at hv
    have he : a.eval x = .slice none 0 0 := hv.c_inv
    exact ⟨.int .i64 0, by simp [execOp, ho, resolve, hc, hat, hax, invoke, builtin, Builtin.len_, he, run_underlying hu, goInt], .c rfl⟩
  · rename_i n es ea hkd
    rw [hkd'] at hkd
    obtain ⟨e, ie, _, hu, _⟩ := kind_array hkd
    refine Snd.pure hk fun μ w a hops => ?_
    exact ⟨.int .i64 n, by simp [execOp, ho, resolve, hc, hat, hax, invoke, builtin, Builtin.len_, run_underlying hu, goInt], .c rfl⟩
  · rename_i s hkd hx
    rw [hkd'] at hkd
    have hu := kind_str hkd
    refine Snd.pure hk fun μ w a hops => ?_
    have hv := hops x hop
    rw [hx] at hv
    have he : a.eval x = .string s := hv.c_inv
    exact ⟨.int .i64 s.size, by simp [execOp, ho, resolve, hc, hat, hax, invoke, builtin, Builtin.len_, he, run_underlying hu, goInt], .c rfl⟩
  · exact hk.elim
theorem snd_max {c : Call} (ho : o.op = .call c) (hc : c.callee = .builtin .max) {x y : Operand} {k : IntKind} {m n : Int} (hax : c.args = #[x, y]) (hx : ρ x = .c (.int k m)) (hy : ρ y = .c (.int k n)) (hk : K (.c (.int k (if n > m then n else m))) [] []) : Snd P o ρ h K := by
  refine Snd.pure hk fun μ w a hops => ?_
  have h1 := hops x (by simp [ho, Op.operands, Call.operands, hc, hax])
  have h2 := hops y (by simp [ho, Op.operands, Call.operands, hc, hax])
  rw [hx] at h1
  rw [hy] at h2
  have e1 : a.eval x = .int k m := h1.c_inv
  have e2 : a.eval y = .int k n := h2.c_inv
  exact ⟨.int k (if n > m then n else m), by simp [execOp, ho, resolve, hc, hax, invoke, builtin, e1, e2, Builtin.max_, Builtin.max2], .c rfl⟩
theorem snd_max3 {c : Call} (ho : o.op = .call c) (hc : c.callee = .builtin .max) {x y z : Operand} {k : IntKind} {m n r : Int} (hax : c.args = #[x, y, z]) (hx : ρ x = .c (.int k m)) (hy : ρ y = .c (.int k n)) (hz : ρ z = .c (.int k r)) (hk : K (.c (.int k (if r > (if n > m then n else m) then r else if n > m then n else m))) [] []) : Snd P o ρ h K := by
  refine Snd.pure hk fun μ w a hops => ?_
  have h1 := hops x (by simp [ho, Op.operands, Call.operands, hc, hax])
  have h2 := hops y (by simp [ho, Op.operands, Call.operands, hc, hax])
  have h3 := hops z (by simp [ho, Op.operands, Call.operands, hc, hax])
  rw [hx] at h1
  rw [hy] at h2
  rw [hz] at h3
  have e1 : a.eval x = .int k m := h1.c_inv
  have e2 : a.eval y = .int k n := h2.c_inv
  have e3 : a.eval z = .int k r := h3.c_inv
  exact ⟨.int k (if r > (if n > m then n else m) then r else if n > m then n else m), by by_cases hnm : n > m <;> simp [execOp, ho, resolve, hc, hax, invoke, builtin, e1, e2, e3, Builtin.max_, Builtin.max2, hnm], .c rfl⟩
theorem snd_min {c : Call} (ho : o.op = .call c) (hc : c.callee = .builtin .min) {x y : Operand} {k : IntKind} {m n : Int} (hax : c.args = #[x, y]) (hx : ρ x = .c (.int k m)) (hy : ρ y = .c (.int k n)) (hk : K (.c (.int k (if n < m then n else m))) [] []) : Snd P o ρ h K := by
  refine Snd.pure hk fun μ w a hops => ?_
  have h1 := hops x (by simp [ho, Op.operands, Call.operands, hc, hax])
  have h2 := hops y (by simp [ho, Op.operands, Call.operands, hc, hax])
  rw [hx] at h1
  rw [hy] at h2
  have e1 : a.eval x = .int k m := h1.c_inv
  have e2 : a.eval y = .int k n := h2.c_inv
  exact ⟨.int k (if n < m then n else m), by simp [execOp, ho, resolve, hc, hax, invoke, builtin, e1, e2, Builtin.min_, Builtin.min2], .c rfl⟩
end
end Go.Abs
