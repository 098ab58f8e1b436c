/- An abstract heap of objects over the model's memory: what it means that a world holds these objects, and how the relation is kept by new blocks, writes, draws and forgetting. -/
import Derived.Deep.AppendSrc
import Derived.Deep.Upon
import Derived.Laws.CopyRow
import Derived.Orders
import Derived.Below
namespace Go.Abs
open Go.RowKit (Below)

inductive Cell where
  | int (k : IntKind) (n : Int)
  | bool (b : Bool)
  | str (s : ByteArray)
  | ptr (k off : Nat)
  | nilp
  | slice (k off len es : Nat)
  | nils
  | fn (f : FuncId) (caps : List (Nat × Nat))
  | nilf

inductive AV where
  | c (c : Cell)
  | agg (cs : List Cell)
  | tup (vs : List AV)
  | any

structure AObj where
  cells : List Cell
  own : Bool

inductive Slot where
  | free
  | dead
  | live (o : AObj)

structure Loc where
  b : Nat
  base : Nat
  E : Nat
  real : Bool

abbrev LMap := Nat → Option Loc
abbrev Heap := Nat → Slot

def LMap.le (μ μ' : LMap) : Prop := ∀ k l, μ k = some l → μ' k = some l
theorem LMap.le_refl (μ : LMap) : μ.le μ := fun _ _ h => h
theorem LMap.le_trans {a b c : LMap} (h : a.le b) (h' : b.le c) : a.le c := fun k l e => h' k l (h k l e)

def RepP (μ : LMap) (p : Nat × Nat) (v : Value) : Prop := ∃ l, μ p.1 = some l ∧ v = .pointer (some ⟨l.b, l.base + p.2, none⟩)

def RepPs (μ : LMap) : List (Nat × Nat) → List Value → Prop
  | [], [] => True
  | p :: ps, v :: vs => RepP μ p v ∧ RepPs μ ps vs
  | _, _ => False

def RepC (μ : LMap) : Cell → Value → Prop
  | .int k n, v => v = .int k n
  | .bool b, v => v = .bool b
  | .str s, v => v = .string s
  | .ptr k off, v => RepP μ (k, off) v
  | .nilp, v => v = .pointer none
  | .slice k off len es, v => ∃ l p cap, μ k = some l ∧ v = .slice p len cap ∧ len ≤ cap ∧
      ((len = 0 ∧ cap = 0) ∨ ∃ x, p = some ⟨l.b, x, none⟩ ∧ l.real = true ∧ x + cap * es ≤ l.E ∧ (len = 0 ∨ x = l.base + off))
  | .nils, v => v = .slice none 0 0
  | .fn f caps, v => ∃ vs : List Value, v = .func (.func f) #[] vs.toArray ∧ RepPs μ caps vs
  | .nilf, v => v = .nilFunc

def RepCs (μ : LMap) : List Cell → List Value → Prop
  | [], [] => True
  | c :: cs, v :: vs => RepC μ c v ∧ RepCs μ cs vs
  | _, _ => False

inductive RepV (μ : LMap) : AV → Value → Prop
  | c {x : Cell} {v : Value} : RepC μ x v → RepV μ (.c x) v
  | agg {cs : List Cell} {vs : List Value} : RepCs μ cs vs → RepV μ (.agg cs) (.agg vs.toArray)
  | tup {as : List AV} {vs : List Value} : as.length = vs.length → (∀ (i : Nat) (a : AV) (v : Value), as[i]? = some a → vs[i]? = some v → RepV μ a v) → RepV μ (.tup as) (.tuple vs.toArray)
  | any {v : Value} : RepV μ .any v

theorem RepP.mono {μ μ' : LMap} (h : μ.le μ') {p : Nat × Nat} {v : Value} (hr : RepP μ p v) : RepP μ' p v :=
  let ⟨l, h1, h2⟩ := hr; ⟨l, h _ _ h1, h2⟩
theorem RepPs.mono {μ μ' : LMap} (h : μ.le μ') : ∀ {ps : List (Nat × Nat)} {vs : List Value}, RepPs μ ps vs → RepPs μ' ps vs
  | [], [], _ => trivial
  | _ :: _, _ :: _, hr => ⟨hr.1.mono h, RepPs.mono h hr.2⟩
  | [], _ :: _, hr => hr.elim
  | _ :: _, [], hr => hr.elim
theorem RepC.mono {μ μ' : LMap} (h : μ.le μ') {c : Cell} {v : Value} (hr : RepC μ c v) : RepC μ' c v := by
  cases c <;> simp only [RepC] at hr ⊢ <;> try exact hr
  case ptr => exact hr.mono h
  case slice => obtain ⟨l, p, cap, h1, h2⟩ := hr; exact ⟨l, p, cap, h _ _ h1, h2⟩
  case fn => obtain ⟨vs, h1, h2⟩ := hr; exact ⟨vs, h1, h2.mono h⟩
theorem RepCs.mono {μ μ' : LMap} (h : μ.le μ') : ∀ {cs : List Cell} {vs : List Value}, RepCs μ cs vs → RepCs μ' cs vs
  | [], [], _ => trivial
  | _ :: _, _ :: _, hr => ⟨hr.1.mono h, RepCs.mono h hr.2⟩
  | [], _ :: _, hr => hr.elim
  | _ :: _, [], hr => hr.elim
theorem RepV.mono {μ μ' : LMap} (h : μ.le μ') {a : AV} {v : Value} (hr : RepV μ a v) : RepV μ' a v := by
  induction hr with
  | c hc => exact .c (hc.mono h)
  | agg hc => exact .agg (hc.mono h)
  | tup hl _ ih => exact .tup hl ih
  | any => exact .any

theorem RepC.oneCell {μ : LMap} {c : Cell} {v : Value} (h : RepC μ c v) : v.oneCell' = true := by
  cases c <;> simp only [RepC, RepP] at h
  case ptr => obtain ⟨l, _, rfl⟩ := h; rfl
  case slice => obtain ⟨l, p, cap, _, rfl, _⟩ := h; rfl
  case fn => obtain ⟨vs, rfl, _⟩ := h; rfl
  all_goals subst h; rfl

theorem RepCs.length {μ : LMap} : ∀ {cs : List Cell} {vs : List Value}, RepCs μ cs vs → cs.length = vs.length
  | [], [], _ => rfl
  | _ :: _, _ :: _, h => by simp [RepCs.length h.2]
  | [], _ :: _, h => h.elim
  | _ :: _, [], h => h.elim
theorem RepCs.get {μ : LMap} : ∀ {cs : List Cell} {vs : List Value}, RepCs μ cs vs → ∀ (j : Nat) (c : Cell), cs[j]? = some c → ∃ v, vs[j]? = some v ∧ RepC μ c v
  | [], [], _, j, c, h => by simp at h
  | c :: cs, v :: vs, hr, 0, x, h => by simp at h; subst h; exact ⟨v, rfl, hr.1⟩
  | c :: cs, v :: vs, hr, j + 1, x, h => by simpa using RepCs.get hr.2 j x (by simpa using h)
  | [], _ :: _, h, _, _, _ => h.elim
  | _ :: _, [], h, _, _, _ => h.elim
theorem RepCs.mk {μ : LMap} : ∀ {cs : List Cell} {vs : List Value}, cs.length = vs.length → (∀ (j : Nat) (c : Cell), cs[j]? = some c → ∃ v, vs[j]? = some v ∧ RepC μ c v) → RepCs μ cs vs
  | [], [], _, _ => trivial
  | c :: cs, v :: vs, hl, h => by
    refine ⟨?_, RepCs.mk (by simpa using hl) fun j x hx => by simpa using h (j + 1) x (by simpa using hx)⟩
    obtain ⟨u, hu, hr⟩ := h 0 c rfl
    simp at hu; subst hu; exact hr
  | [], _ :: _, h, _ => by simp at h
  | _ :: _, [], h, _ => by simp at h
theorem RepCs.oneCell {μ : LMap} : ∀ {cs : List Cell} {vs : List Value}, RepCs μ cs vs → ∀ v ∈ vs, v.oneCell' = true
  | [], [], _ => by simp
  | c :: cs, v :: vs, h => by
    intro x hx
    rcases List.mem_cons.1 hx with rfl | hx
    · exact h.1.oneCell
    · exact RepCs.oneCell h.2 x hx
  | [], _ :: _, h => h.elim
  | _ :: _, [], h => h.elim
theorem RepCs.append {μ : LMap} : ∀ {cs ds : List Cell} {vs us : List Value}, RepCs μ cs vs → RepCs μ ds us → RepCs μ (cs ++ ds) (vs ++ us)
  | [], _, [], _, _, h => h
  | _ :: _, _, _ :: _, _, h, h' => ⟨h.1, RepCs.append h.2 h'⟩
  | [], _, _ :: _, _, h, _ => h.elim
  | _ :: _, _, [], _, h, _ => h.elim

/-- An object lies at a place. -/
def ObjAt (μ : LMap) (B : Nat) (w : World) (l : Loc) (o : AObj) : Prop :=
  if l.real then
    ∃ c elem fz, w.heap[l.b]? = some (.cells c elem fz) ∧ c.size = l.E ∧
      (∀ (j : Nat) (x : Cell), o.cells[j]? = some x → ∃ v, c[l.base + j]? = some v ∧ RepC μ x v) ∧
      (if o.own then fz = (0, 0) ∧ B ≤ l.b else l.b < B)
  else o.cells = []

structure Rel (B : Nat) (μ : LMap) (A : Heap) (w : World) : Prop where
  free : ∀ k, A k = .free → μ k = none
  obj : ∀ k o, A k = .live o → ∃ l, μ k = some l ∧ ObjAt μ B w l o
  inj : ∀ k k' o o' l l', A k = .live o → A k' = .live o' → o.own = true → o'.own = true → μ k = some l → μ k' = some l' → l.real = true → l'.real = true → k ≠ k' → l.b ≠ l'.b
  size : B ≤ w.heap.size

theorem ObjAt.mono {μ μ' : LMap} (h : μ.le μ') {B : Nat} {w w' : World} {l : Loc} {o : AObj} (ho : ObjAt μ B w l o) (hw : l.real = true → w'.heap[l.b]? = w.heap[l.b]?) : ObjAt μ' B w' l o := by
  unfold ObjAt at *
  split
  · rename_i hr
    simp only [hr, if_true] at ho
    obtain ⟨c, elem, fz, h1, h2, h3, h4⟩ := ho
    refine ⟨c, elem, fz, (hw hr).trans h1, h2, fun j x hx => ?_, h4⟩
    obtain ⟨v, hv, hrep⟩ := h3 j x hx
    exact ⟨v, hv, hrep.mono h⟩
  · rename_i hr
    simpa [hr] using ho

theorem ObjAt.lt {μ : LMap} {B : Nat} {w : World} {l : Loc} {o : AObj} (ho : ObjAt μ B w l o) (hr : l.real = true) : l.b < w.heap.size := by
  simp only [ObjAt, hr, if_true] at ho
  obtain ⟨c, elem, fz, h1, _⟩ := ho
  exact (Array.getElem?_eq_some_iff.1 h1).1

/-- Nothing but draws. -/
theorem Rel.drew {B : Nat} {μ : LMap} {A : Heap} {w : World} (h : Rel B μ A w) : Rel B μ A w.drew :=
  ⟨h.free, fun k o ho => let ⟨l, h1, h2⟩ := h.obj k o ho; ⟨l, h1, h2.mono (LMap.le_refl _) (fun _ => rfl)⟩, h.inj, h.size⟩

def upd {α : Type} (f : Nat → α) (k : Nat) (v : α) : Nat → α := fun j => if j = k then v else f j
@[simp] theorem upd_same {α : Type} (f : Nat → α) (k : Nat) (v : α) : upd f k v k = v := by simp [upd]
theorem upd_ne {α : Type} (f : Nat → α) {k j : Nat} (v : α) (h : j ≠ k) : upd f k v j = f j := by simp [upd, h]

theorem LMap.le_upd {μ : LMap} {k : Nat} {l : Loc} (h : μ k = none) : μ.le (upd μ k (some l)) := by
  intro j l' hj
  by_cases e : j = k
  · subst e; rw [h] at hj; cases hj
  · rwa [upd_ne _ _ e]

/-- A new block for a new object. -/
theorem Rel.alloc {B : Nat} {μ : LMap} {A : Heap} {w : World} (h : Rel B μ A w) {k : Nat} (hk : A k = .free) (c : Array Value) (elem : TypeId) (cells : List Cell)
    (hc : ∀ (j : Nat) (x : Cell), cells[j]? = some x → ∃ v, c[j]? = some v ∧ RepC μ x v) :
    Rel B (upd μ k (some ⟨w.heap.size, 0, c.size, true⟩)) (upd A k (.live ⟨cells, true⟩)) (w.alloc (.cells c elem)) := by
  have hμ := h.free k hk
  have hle : μ.le (upd μ k (some ⟨w.heap.size, 0, c.size, true⟩)) := LMap.le_upd hμ
  refine ⟨fun j hj => ?_, fun j o hj => ?_, ?_, by simp; have := h.size; omega⟩
  · by_cases e : j = k
    · subst e; simp at hj
    · rw [upd_ne _ _ e] at hj ⊢; exact h.free j hj
  · by_cases e : j = k
    · subst e
      simp only [upd_same, Slot.live.injEq] at hj
      subst hj
      refine ⟨_, upd_same _ _ _, ?_⟩
      simp only [ObjAt, if_true]
      refine ⟨c, elem, (0, 0), heap_alloc_new w _, rfl, fun j x hx => ?_, rfl, h.size⟩
      obtain ⟨v, hv, hr⟩ := hc j x hx
      exact ⟨v, by simpa using hv, hr.mono hle⟩
    · rw [upd_ne _ _ e] at hj ⊢
      obtain ⟨l, h1, h2⟩ := h.obj j o hj
      exact ⟨l, h1, h2.mono hle fun hr => heap_alloc_old w _ _ (h2.lt hr)⟩
  · intro i j o o' l l' hi hj ho ho' hl hl' hr hr' hne
    by_cases e : i = k
    · subst e
      have e' : j ≠ i := fun x => hne x.symm
      rw [upd_ne _ _ e'] at hj hl'
      simp at hl; subst hl
      obtain ⟨l2, h1, h2⟩ := h.obj j o' hj
      rw [hl'] at h1; cases h1
      have := h2.lt hr'
      simp; omega
    · rw [upd_ne _ _ e] at hi hl
      by_cases e' : j = k
      · subst e'
        simp at hl'; subst hl'
        obtain ⟨l2, h1, h2⟩ := h.obj i o hi
        rw [hl] at h1; cases h1
        have := h2.lt hr
        simp; omega
      · rw [upd_ne _ _ e'] at hj hl'
        exact h.inj i j o o' l l' hi hj ho ho' hl hl' hr hr' hne

/-- A phantom: an empty object without a block. -/
theorem Rel.phantom {B : Nat} {μ : LMap} {A : Heap} {w : World} (h : Rel B μ A w) {k : Nat} (hk : A k = .free) :
    Rel B (upd μ k (some ⟨0, 0, 0, false⟩)) (upd A k (.live ⟨[], true⟩)) w := by
  have hμ := h.free k hk
  have hle : μ.le (upd μ k (some ⟨0, 0, 0, false⟩)) := LMap.le_upd hμ
  refine ⟨fun j hj => ?_, fun j o hj => ?_, ?_, h.size⟩
  · by_cases e : j = k
    · subst e; simp at hj
    · rw [upd_ne _ _ e] at hj ⊢; exact h.free j hj
  · by_cases e : j = k
    · subst e
      simp only [upd_same, Slot.live.injEq] at hj
      subst hj
      exact ⟨_, upd_same _ _ _, by simp [ObjAt]⟩
    · rw [upd_ne _ _ e] at hj ⊢
      obtain ⟨l, h1, h2⟩ := h.obj j o hj
      exact ⟨l, h1, h2.mono hle fun _ => rfl⟩
  · intro i j o o' l l' hi hj ho ho' hl hl' hr hr' hne
    by_cases e : i = k
    · subst e; simp at hl; subst hl; simp at hr
    · by_cases e' : j = k
      · subst e'; simp at hl'; subst hl'; simp at hr'
      · rw [upd_ne _ _ e] at hi hl
        rw [upd_ne _ _ e'] at hj hl'
        exact h.inj i j o o' l l' hi hj ho ho' hl hl' hr hr' hne

/-- A write into an object of one's own. -/
theorem Rel.write {B : Nat} {μ : LMap} {A : Heap} {w : World} (h : Rel B μ A w) {k : Nat} {o : AObj} {l : Loc} (hk : A k = .live o) (hown : o.own = true) (hl : μ k = some l) (hr : l.real = true)
    (c' : Array Value) (hs : c'.size = l.E) (cells : List Cell)
    (hc : ∀ (j : Nat) (x : Cell), cells[j]? = some x → ∃ v, c'[l.base + j]? = some v ∧ RepC μ x v) :
    Rel B μ (upd A k (.live ⟨cells, true⟩)) (w.setRow l.b c') := by
  obtain ⟨l0, hl0, ho⟩ := h.obj k o hk
  rw [hl] at hl0; cases hl0
  have ho' := ho
  simp only [ObjAt, hr, hown, if_true] at ho
  obtain ⟨c, elem, fz, h1, h2, h3, rfl, h5⟩ := ho
  refine ⟨fun j hj => ?_, fun j ob hj => ?_, ?_, by simp; exact h.size⟩
  · by_cases e : j = k
    · subst e; simp at hj
    · rw [upd_ne _ _ e] at hj; exact h.free j hj
  · by_cases e : j = k
    · subst e
      simp only [upd_same, Slot.live.injEq] at hj
      subst hj
      refine ⟨l, hl, ?_⟩
      simp only [ObjAt, hr, if_true]
      exact ⟨c', elem, (0, 0), setRow_heap w l.b c c' elem (0, 0) h1, hs, hc, rfl, h5⟩
    · rw [upd_ne _ _ e] at hj
      obtain ⟨l2, h6, h7⟩ := h.obj j ob hj
      refine ⟨l2, h6, h7.mono (LMap.le_refl _) fun hr2 => setRow_other w _ _ _ ?_⟩
      cases hob : ob.own with
      | true => exact h.inj j k ob o l2 l hj hk hob hown h6 hl hr2 hr e
      | false =>
        simp only [ObjAt, hr2, hob, if_true] at h7
        obtain ⟨_, _, _, _, _, _, h8⟩ := h7
        simp at h8
        omega
  · intro i j oi oj li lj hi hj hoi hoj hli hlj hri hrj hne
    have hi' : ∃ oi', A i = .live oi' ∧ oi'.own = true := by
      by_cases e : i = k
      · subst e; exact ⟨o, hk, hown⟩
      · rw [upd_ne _ _ e] at hi; exact ⟨oi, hi, hoi⟩
    have hj' : ∃ oj', A j = .live oj' ∧ oj'.own = true := by
      by_cases e : j = k
      · subst e; exact ⟨o, hk, hown⟩
      · rw [upd_ne _ _ e] at hj; exact ⟨oj, hj, hoj⟩
    obtain ⟨oi', ha, hb⟩ := hi'
    obtain ⟨oj', hc', hd⟩ := hj'
    exact h.inj i j oi' oj' li lj ha hc' hb hd hli hlj hri hrj hne

/-- An object is given up. -/
theorem Rel.kill {B : Nat} {μ : LMap} {A : Heap} {w : World} (h : Rel B μ A w) {k : Nat} (hk : A k ≠ .free) : Rel B μ (upd A k .dead) w := by
  refine ⟨fun j hj => ?_, fun j o hj => ?_, fun i j o o' l l' hi hj ho ho' hl hl' hr hr' hne => ?_, h.size⟩
  · by_cases e : j = k
    · subst e; simp at hj
    · rw [upd_ne _ _ e] at hj; exact h.free j hj
  · by_cases e : j = k
    · subst e; simp at hj
    · rw [upd_ne _ _ e] at hj; exact h.obj j o hj
  · by_cases e : i = k
    · subst e; simp at hi
    · by_cases e' : j = k
      · subst e'; simp at hj
      · rw [upd_ne _ _ e] at hi
        rw [upd_ne _ _ e'] at hj
        exact h.inj i j o o' l l' hi hj ho ho' hl hl' hr hr' hne

/-- An object of one's own goes on under a new name, seen from another place in its block. -/
theorem Rel.rename {B : Nat} {μ : LMap} {A : Heap} {w : World} (h : Rel B μ A w) {k n : Nat} {o : AObj} {l : Loc} (hk : A k = .live o) (hown : o.own = true) (hl : μ k = some l) (hr : l.real = true) (hn : A n = .free)
    (x : Nat) (cells : List Cell) (hc : ∀ (c : Array Value) (elem : TypeId) (fz : Nat × Nat), w.heap[l.b]? = some (.cells c elem fz) → ∀ (j : Nat) y, cells[j]? = some y → ∃ v, c[x + j]? = some v ∧ RepC μ y v) :
    Rel B (upd μ n (some ⟨l.b, x, l.E, true⟩)) (upd (upd A k .dead) n (.live ⟨cells, true⟩)) w := by
  have hμ := h.free n hn
  have hle : μ.le (upd μ n (some ⟨l.b, x, l.E, true⟩)) := LMap.le_upd hμ
  have hne : k ≠ n := fun e => by rw [← e, hk] at hn; cases hn
  obtain ⟨l0, hl0, ho⟩ := h.obj k o hk
  rw [hl] at hl0; cases hl0
  simp only [ObjAt, hr, hown, if_true] at ho
  obtain ⟨c, elem, fz, h1, h2, h3, rfl, h5⟩ := ho
  have key : ∀ j ob lj, j ≠ n → upd (upd A k .dead) n (.live ⟨cells, true⟩) j = .live ob → ob.own = true → μ j = some lj → lj.real = true → lj.b ≠ l.b := by
    intro j ob lj hjn hj hob hlj hrj
    rw [upd_ne _ _ hjn] at hj
    by_cases e : j = k
    · subst e; simp at hj
    · rw [upd_ne _ _ e] at hj
      exact h.inj j k ob o lj l hj hk hob hown hlj hl hrj hr e
  refine ⟨fun j hj => ?_, fun j ob hj => ?_, ?_, h.size⟩
  · by_cases e : j = n
    · subst e; simp at hj
    · rw [upd_ne _ _ e] at hj ⊢
      by_cases e' : j = k
      · subst e'; simp at hj
      · rw [upd_ne _ _ e'] at hj; exact h.free j hj
  · by_cases e : j = n
    · subst e
      simp only [upd_same, Slot.live.injEq] at hj
      subst hj
      refine ⟨_, upd_same _ _ _, ?_⟩
      simp only [ObjAt, if_true]
      refine ⟨c, elem, (0, 0), h1, h2, fun j y hy => ?_, rfl, h5⟩
      obtain ⟨v, hv, hrep⟩ := hc c elem (0, 0) h1 j y hy
      exact ⟨v, hv, hrep.mono hle⟩
    · rw [upd_ne _ _ e] at hj
      by_cases e' : j = k
      · subst e'; simp at hj
      · rw [upd_ne _ _ e'] at hj
        obtain ⟨l2, h6, h7⟩ := h.obj j ob hj
        exact ⟨l2, by rw [upd_ne _ _ e]; exact h6, h7.mono hle fun _ => rfl⟩
  · intro i j oi oj li lj hi hj hoi hoj hli hlj hri hrj hij
    by_cases e : i = n
    · subst e
      simp at hli; subst hli
      have e' : j ≠ i := fun x => hij x.symm
      have := key j oj lj e' hj hoj (by rwa [upd_ne _ _ e'] at hlj) hrj
      exact fun x => this x.symm
    · rw [upd_ne _ _ e] at hli
      by_cases e' : j = n
      · subst e'
        simp at hlj; subst hlj
        exact key i oi li e hi hoi hli hri
      · rw [upd_ne _ _ e'] at hlj
        rw [upd_ne _ _ e] at hi
        rw [upd_ne _ _ e'] at hj
        have f : ∀ i ob, upd A k .dead i = .live ob → A i = .live ob := by
          intro i ob hh
          by_cases e3 : i = k
          · subst e3; simp at hh
          · rwa [upd_ne _ _ e3] at hh
        exact h.inj i j oi oj li lj (f _ _ hi) (f _ _ hj) hoi hoj hli hlj hri hrj hij
end Go.Abs
