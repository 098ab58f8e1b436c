/- What the row needs, part 3 of 17: the texts Ac, without what it does not use. -/

import Derived.Test.YtcfemdhlcjmlbaaLNa
import Derived.Test.YtcfemdhlcjmlbaaLNb
/- Forgetting; code; functions in short; rules. -/

/- Forgetting: what a call or a round has laid for itself alone is dropped, and objects get the names that the caller gives them. -/
namespace Go.Abs
open Go.RowKit (Below)

def Cell.ids : Cell → List Nat
  | .ptr k _ => [k]
  | .slice k _ _ _ => [k]
  | .fn _ caps => caps.map (·.1)
  | _ => []
def Cell.mapIds (σ : Nat → Nat) : Cell → Cell
  | .ptr k off => .ptr (σ k) off
  | .slice k off len es => .slice (σ k) off len es
  | .fn f caps => .fn f (caps.map fun p => (σ p.1, p.2))
  | x => x

/-- What a value comes to under other names. -/
inductive Named (σ : Nat → Nat) (ok : Nat → Prop) : AV → AV → Prop
  | c {x : Cell} : (∀ i ∈ x.ids, ok i) → Named σ ok (.c x) (.c (x.mapIds σ))
  | agg {cs : List Cell} : (∀ x ∈ cs, ∀ i ∈ x.ids, ok i) → Named σ ok (.agg cs) (.agg (cs.map (Cell.mapIds σ)))
  | tup {as_ bs : List AV} : as_.length = bs.length → (∀ (i : Nat) (a b : AV), as_[i]? = some a → bs[i]? = some b → Named σ ok a b) → Named σ ok (.tup as_) (.tup bs)
  | any {b : AV} : Named σ ok .any b

theorem RepP.name {μ μ'' : LMap} {σ : Nat → Nat} {p : Nat × Nat} {v : Value} (h : RepP μ (σ p.1, p.2) v) (hk : μ'' p.1 = μ (σ p.1)) : RepP μ'' p v := by
  obtain ⟨l, h1, h2⟩ := h
  exact ⟨l, hk.trans h1, h2⟩
theorem RepPs.name {μ μ'' : LMap} {σ : Nat → Nat} : ∀ {ps : List (Nat × Nat)} {vs : List Value}, RepPs μ (ps.map fun p => (σ p.1, p.2)) vs → (∀ i ∈ ps.map (·.1), μ'' i = μ (σ i)) → RepPs μ'' ps vs
  | [], [], _, _ => trivial
  | _ :: _, _ :: _, h, hk => ⟨h.1.name (hk _ (by simp)), RepPs.name h.2 fun i hi => hk i (by simp only [List.map_cons, List.mem_cons]; exact .inr hi)⟩
  | [], _ :: _, h, _ => h.elim
  | _ :: _, [], h, _ => h.elim
theorem RepC.name {μ μ'' : LMap} {σ : Nat → Nat} {c : Cell} {v : Value} (h : RepC μ (c.mapIds σ) v) (hk : ∀ i ∈ c.ids, μ'' i = μ (σ i)) : RepC μ'' c v := by
  cases c <;> simp only [Cell.mapIds, RepC] at h ⊢ <;> try exact h
  case ptr k off => exact RepP.name (p := (k, off)) h (hk k (by simp [Cell.ids]))
  case slice k off len es => obtain ⟨l, p, cap, h1, h2⟩ := h; exact ⟨l, p, cap, (hk k (by simp [Cell.ids])).trans h1, h2⟩
  case fn f caps => obtain ⟨vs, h1, h2⟩ := h; exact ⟨vs, h1, h2.name fun i hi => hk i (by simpa [Cell.ids] using hi)⟩
theorem RepCs.name {μ μ'' : LMap} {σ : Nat → Nat} : ∀ {cs : List Cell} {vs : List Value}, RepCs μ (cs.map (Cell.mapIds σ)) vs → (∀ c ∈ cs, ∀ i ∈ c.ids, μ'' i = μ (σ i)) → RepCs μ'' cs vs
  | [], [], _, _ => trivial
  | _ :: _, _ :: _, h, hk => ⟨h.1.name (hk _ (by simp)), RepCs.name h.2 fun c hc => hk c (by simp [hc])⟩
  | [], _ :: _, h, _ => h.elim
  | _ :: _, [], h, _ => h.elim

theorem RepPs.dom {μ : LMap} : ∀ {ps : List (Nat × Nat)} {vs : List Value}, RepPs μ ps vs → ∀ i ∈ ps.map (·.1), ∃ l, μ i = some l
  | [], _, _, i, hi => by simp at hi
  | p :: ps, v :: vs, h, i, hi => by
    simp only [List.map_cons, List.mem_cons] at hi
    rcases hi with rfl | hi
    · obtain ⟨l, h1, _⟩ := h.1; exact ⟨l, h1⟩
    · exact RepPs.dom h.2 i hi
  | _ :: _, [], h, _, _ => h.elim
theorem RepC.dom {μ : LMap} {c : Cell} {v : Value} (h : RepC μ c v) : ∀ i ∈ c.ids, ∃ l, μ i = some l := by
  intro i hi
  cases c <;> simp [Cell.ids] at hi
  case ptr => obtain ⟨l, h1, _⟩ := h; subst hi; exact ⟨l, h1⟩
  case slice => obtain ⟨l, p, cap, h1, _⟩ := h; subst hi; exact ⟨l, h1⟩
  case fn =>
    obtain ⟨vs, _, h2⟩ := h
    refine h2.dom i ?_
    obtain ⟨x, hx⟩ := hi
    exact List.mem_map.2 ⟨(i, x), hx, rfl⟩
theorem RepCs.dom {μ : LMap} : ∀ {cs : List Cell} {vs : List Value}, RepCs μ cs vs → ∀ c ∈ cs, ∀ i ∈ c.ids, ∃ l, μ i = some l
  | [], _, _, c, hc => by simp at hc
  | c :: cs, v :: vs, h, x, hx => by
    rcases List.mem_cons.1 hx with rfl | hx
    · exact h.1.dom
    · exact RepCs.dom h.2 x hx
  | _ :: _, [], h, _, _ => h.elim

theorem mapIds_ids (σ : Nat → Nat) (c : Cell) : (c.mapIds σ).ids = c.ids.map σ := by
  cases c <;> simp [Cell.mapIds, Cell.ids]

/-- The names of a heap that has been cut down. -/
theorem Rel.restrict {B : Nat} {μ0 μ : LMap} {G0 G G' : Heap} {w0 w : World} (h0 : Rel B μ0 G0 w0) (h : Rel B μ G w) (hle : μ0.le μ) (σ : Nat → Nat)
    (hσ : ∀ k, G0 k ≠ .free → G' k ≠ .free ∧ σ k = k)
    (hobj : ∀ k o, G' k = .live o → (G0 k = .live o ∧ G k = .live o) ∨ (G (σ k) = .live ⟨o.cells.map (Cell.mapIds σ), o.own⟩ ∧ ∀ c ∈ o.cells, ∀ i ∈ c.ids, G (σ i) ≠ .free → G' i ≠ .free))
    (hinj : ∀ k k' o o', G' k = .live o → G' k' = .live o' → o.own = true → o'.own = true → k ≠ k' → σ k ≠ σ k') :
    ∃ μ', μ0.le μ' ∧ Rel B μ' G' w ∧ ∀ x y v, Named σ (fun i => G (σ i) ≠ .free → G' i ≠ .free) x y → RepV μ y v → RepV μ' x v := by
  have hdom : ∀ i l, μ i = some l → G i ≠ .free := fun i l hi hf => by rw [h.free i hf] at hi; cases hi
  have hdom0 : ∀ i l, μ0 i = some l → G0 i ≠ .free := fun i l hi hf => by rw [h0.free i hf] at hi; cases hi
  let μ' : LMap := fun k => match G' k with | .free => none | _ => μ (σ k)
  have hμ' : ∀ k, G' k ≠ .free → μ' k = μ (σ k) := by
    intro k hk
    show (match G' k with | .free => none | _ => μ (σ k)) = μ (σ k)
    cases hg : G' k <;> simp_all
  have hle' : μ0.le μ' := by
    intro k l hk
    have h1 := hσ k (hdom0 k l hk)
    rw [hμ' k h1.1, h1.2]
    exact hle k l hk
  have single : ∀ (c : Cell) v, (∀ i ∈ c.ids, G (σ i) ≠ .free → G' i ≠ .free) → RepC μ (c.mapIds σ) v → RepC μ' c v := by
    intro c v hok hr
    refine hr.name fun i hi => ?_
    obtain ⟨l, hl⟩ := hr.dom (σ i) (by rw [mapIds_ids]; exact List.mem_map_of_mem hi)
    exact hμ' i (hok i hi (hdom _ l hl))
  refine ⟨μ', hle', ⟨fun k hk => ?_, fun k o hk => ?_, fun k k' o o' l l' hk hk' ho ho' hl hl' hr hr' hne => ?_, h.size⟩, ?_⟩
  · show (match G' k with | .free => none | _ => μ (σ k)) = none
    rw [hk]
  · have hnf : G' k ≠ .free := by rw [hk]; simp
    rcases hobj k o hk with ⟨g0, g1⟩ | ⟨g1, g2⟩
    · have hs := hσ k (by rw [g0]; simp)
      obtain ⟨l, hl, hat⟩ := h.obj k o g1
      refine ⟨l, by rw [hμ' k hnf, hs.2]; exact hl, ?_⟩
      obtain ⟨l0, hl0, hat0⟩ := h0.obj k o g0
      have := hle k l0 hl0
      rw [hl] at this; cases this
      unfold ObjAt at hat hat0 ⊢
      split
      · rename_i hr
        simp only [hr, if_true] at hat hat0
        obtain ⟨C, elem, fz, a1, a2, a3, a4⟩ := hat
        obtain ⟨C0, elem0, fz0, b1, b2, b3, b4⟩ := hat0
        refine ⟨C, elem, fz, a1, a2, fun j x hx => ?_, a4⟩
        obtain ⟨v, hv, hrep⟩ := a3 j x hx
        obtain ⟨v0, hv0, hrep0⟩ := b3 j x hx
        refine ⟨v, hv, ?_⟩
        have hx0 := hrep0.dom
        have hmap : x.mapIds σ = x := by
          cases x <;> simp only [Cell.mapIds]
          case ptr k' off => obtain ⟨l, hl⟩ := hx0 k' (by simp [Cell.ids]); rw [(hσ k' (hdom0 _ _ hl)).2]
          case slice k' off len es => obtain ⟨l, hl⟩ := hx0 k' (by simp [Cell.ids]); rw [(hσ k' (hdom0 _ _ hl)).2]
          case fn f caps =>
            congr 1
            rw [List.map_congr_left (g := id)]
            · simp
            · intro p hp
              obtain ⟨l, hl⟩ := hx0 p.1 (by simp only [Cell.ids]; exact List.mem_map_of_mem hp)
              rw [(hσ p.1 (hdom0 _ _ hl)).2]; rfl
        refine single x v (fun i hi _ => ?_) (by rw [hmap]; exact hrep)
        obtain ⟨l, hl⟩ := hx0 i hi
        exact (hσ i (hdom0 _ _ hl)).1
      · rename_i hr
        simpa [hr] using hat
    · obtain ⟨l, hl, hat⟩ := h.obj (σ k) _ g1
      refine ⟨l, by rw [hμ' k hnf]; exact hl, ?_⟩
      unfold ObjAt at hat ⊢
      split
      · rename_i hr
        simp only [hr, if_true] at hat
        obtain ⟨C, elem, fz, a1, a2, a3, a4⟩ := hat
        refine ⟨C, elem, fz, a1, a2, fun j x hx => ?_, a4⟩
        obtain ⟨v, hv, hrep⟩ := a3 j (x.mapIds σ) (by rw [List.getElem?_map, hx]; rfl)
        exact ⟨v, hv, single x v (g2 x (List.mem_of_getElem? hx)) hrep⟩
      · rename_i hr
        simpa [hr] using hat
  · have hnf : G' k ≠ .free := by rw [hk]; simp
    have hnf' : G' k' ≠ .free := by rw [hk']; simp
    rw [hμ' k hnf] at hl
    rw [hμ' k' hnf'] at hl'
    have f : ∀ k o, G' k = .live o → ∃ o2, G (σ k) = .live o2 ∧ o2.own = o.own := by
      intro k o hk
      rcases hobj k o hk with ⟨g0, g1⟩ | ⟨g1, _⟩
      · rw [(hσ k (by rw [g0]; simp)).2]; exact ⟨o, g1, rfl⟩
      · exact ⟨_, g1, rfl⟩
    obtain ⟨o2, e1, e2⟩ := f k o hk
    obtain ⟨o2', e1', e2'⟩ := f k' o' hk'
    exact h.inj (σ k) (σ k') o2 o2' l l' e1 e1' (e2.trans ho) (e2'.trans ho') hl hl' hr hr' (hinj k k' o o' hk hk' ho ho' hne)
  · intro x y v hn
    induction hn generalizing v with
    | c hok => exact fun hr => .c (single _ _ hok hr.c_inv)
    | agg hok =>
      intro hr
      obtain ⟨vs, rfl, hrs⟩ := hr.agg_inv
      refine .agg (hrs.name fun c hc i hi => ?_)
      obtain ⟨l, hl⟩ := hrs.dom (c.mapIds σ) (List.mem_map_of_mem hc) (σ i) (by rw [mapIds_ids]; exact List.mem_map_of_mem hi)
      exact hμ' i (hok c hc i hi (hdom _ l hl))
    | tup hl _ ih =>
      rename_i as_ bs _
      intro hr
      obtain ⟨vs, rfl, hlen, hrs⟩ := hr.tup_inv
      refine .tup (hl.trans hlen) fun i a u ha hu => ?_
      have hi : i < bs.length := by rw [← hl]; exact (List.getElem?_eq_some_iff.1 ha).1
      have hb : bs[i]? = some bs[i] := List.getElem?_eq_getElem hi
      exact ih i a _ ha hb u (hrs i _ u hb hu)
    | any => exact fun _ => .any

/-- A state may be taken for a poorer one, seen from a state that stood before it. -/
def Weak (h : AHeap) (T' : List AV) (h' : AHeap) (T'' : List AV) (h'' : AHeap) : Prop :=
  ∀ (B : Nat) (μ0 μ : LMap) (w0 w : World) (a : Act), Rel B μ0 h.get w0 → μ0.le μ → RepT μ T' a → Rel B μ h'.get w → ∃ μ', μ0.le μ' ∧ RepT μ' T'' a ∧ Rel B μ' h''.get w

def ltIds (M : Nat) (c : Cell) : Prop := ∀ i ∈ c.ids, i < M
def AV.lt (M : Nat) : AV → Prop
  | .c x => ltIds M x
  | .agg cs => ∀ x ∈ cs, ltIds M x
  | .tup _ => False
  | .any => True

/-- Slots that are forgotten. -/
def Forget (M : Nat) : List AV → List AV → Prop
  | [], [] => True
  | a :: as_, b :: bs => (b = .any ∨ (b = a ∧ b.lt M)) ∧ Forget M as_ bs
  | _, _ => False

theorem mapIds_id (c : Cell) : c.mapIds id = c := by
  cases c <;> simp [Cell.mapIds]

theorem Forget.length {M : Nat} : ∀ {as_ bs : List AV}, Forget M as_ bs → as_.length = bs.length
  | [], [], _ => rfl
  | _ :: _, _ :: _, h => by simp [Forget.length h.2]
  | [], _ :: _, h => h.elim
  | _ :: _, [], h => h.elim
theorem Forget.get {M : Nat} : ∀ {as_ bs : List AV}, Forget M as_ bs → ∀ (i : Nat) (b : AV), bs[i]? = some b → b = .any ∨ (as_[i]? = some b ∧ b.lt M)
  | [], [], _, i, b, h => by simp at h
  | a :: as_, c :: bs, hf, 0, b, h => by
    simp at h; subst h
    rcases hf.1 with h1 | ⟨h1, h2⟩
    · exact .inl h1
    · exact .inr ⟨by simp [h1], h2⟩
  | a :: as_, c :: bs, hf, i + 1, b, h => by simpa using Forget.get hf.2 i b (by simpa using h)
  | [], _ :: _, h, _, _, _ => h.elim
  | _ :: _, [], h, _, _, _ => h.elim

/-- The last objects are dropped. 'L': the objects at the start; 'L'': those that stay; 'J': those that go. -/
theorem Weak.drop {A A' : Heap} {N : Nat} {L L' J : List Slot} {T' T'' : List AV} (hlen : L.length ≤ L'.length)
    (hA : ∀ k, k < N → A' k ≠ A k → (A k ≠ .free → A' k ≠ .free) ∧ ∀ o, A' k = .live o → ∀ c ∈ o.cells, ltIds (nid N L'.length) c)
    (hL : ∀ (j : Nat) o, L'[j]? = some (.live o) → L[j]? = some (.live o) ∨ ∀ c ∈ o.cells, ltIds (nid N L'.length) c)
    (hfree : ∀ j, j < L.length → L'[j]? ≠ some .free) (hT : Forget (nid N L'.length) T' T'') : Weak ⟨A, N, L⟩ T' ⟨A', N, L' ++ J⟩ T'' ⟨A', N, L'⟩ := by
  intro B μ0 μ w0 w a h0 hle ht h
  have agree : ∀ k, k < nid N L'.length → (⟨A', N, L' ++ J⟩ : AHeap).get k = (⟨A', N, L'⟩ : AHeap).get k := by
    intro k hk
    unfold nid at hk
    simp only [AHeap.get]
    split
    · rfl
    · rw [List.getD_eq_getElem?_getD, List.getD_eq_getElem?_getD, List.getElem?_append_left (by omega)]
  have beyond : ∀ k, nid N L'.length ≤ k → (⟨A', N, L'⟩ : AHeap).get k = .free := by
    intro k hk
    unfold nid at hk
    simp only [AHeap.get]
    rw [if_neg (by omega), List.getD_eq_getElem?_getD, List.getElem?_eq_none (by omega)]; rfl
  have key := h0.restrict (G' := (⟨A', N, L'⟩ : AHeap).get) h hle id (fun k hk => ⟨?_, rfl⟩) (fun k o hk => ?_) (fun k k' o o' _ _ _ _ hne => hne)
  · obtain ⟨μ', h1, h2, h3⟩ := key
    refine ⟨μ', h1, ⟨ht.defers, ht.size.trans hT.length, fun i b hb => ?_⟩, h2⟩
    rcases hT.get i b hb with rfl | ⟨hb', hlt⟩
    · have hi : i < a.tmps.size := by
        rw [ht.size, hT.length]
        exact (List.getElem?_eq_some_iff.1 hb).1
      exact ⟨a.tmps[i], Array.getElem?_eq_getElem hi, .any⟩
    · obtain ⟨v, hv, hr⟩ := ht.get i b hb'
      refine ⟨v, hv, h3 b b v ?_ hr⟩
      have okI : ∀ i, i < nid N L'.length → ((⟨A', N, L' ++ J⟩ : AHeap).get (id i) ≠ .free → (⟨A', N, L'⟩ : AHeap).get i ≠ .free) := fun i hi hf => by rw [← agree i hi]; exact hf
      cases b with
      | c x => have := Named.c (σ := id) (ok := fun i => (⟨A', N, L' ++ J⟩ : AHeap).get (id i) ≠ .free → (⟨A', N, L'⟩ : AHeap).get i ≠ .free) (x := x) (fun i hi => okI i (hlt i hi)); rwa [mapIds_id] at this
      | agg cs =>
        have := Named.agg (σ := id) (ok := fun i => (⟨A', N, L' ++ J⟩ : AHeap).get (id i) ≠ .free → (⟨A', N, L'⟩ : AHeap).get i ≠ .free) (cs := cs) (fun x hx i hi => okI i (hlt x hx i hi))
        have e : cs.map (Cell.mapIds id) = cs := by
          conv => rhs; rw [← List.map_id cs]
          exact List.map_congr_left fun x _ => mapIds_id x
        rwa [e] at this
      | tup _ => exact hlt.elim
      | any => exact .any
  · -- what was there is there
    simp only [AHeap.get] at hk ⊢
    split
    · rename_i hkN
      rw [if_pos hkN] at hk
      by_cases e : A' k = A k
      · rw [e]; exact hk
      · exact (hA k hkN e).1 hk
    · rename_i hkN
      rw [if_neg hkN] at hk
      have hkl : k - N < L.length := by
        rcases Nat.lt_or_ge (k - N) L.length with hh | hh
        · exact hh
        · rw [List.getD_eq_getElem?_getD, List.getElem?_eq_none hh] at hk
          exact absurd rfl hk
      have := hfree (k - N) hkl
      have hkl' : k - N < L'.length := by omega
      rw [List.getD_eq_getElem?_getD, List.getElem?_eq_getElem hkl']
      intro hf
      simp only [Option.getD_some] at hf
      rw [List.getElem?_eq_getElem hkl', hf] at this
      exact this rfl
  · have hkM : k < nid N L'.length := by
      rcases Nat.lt_or_ge k (nid N L'.length) with hh | hh
      · exact hh
      · rw [beyond k hh] at hk; cases hk
    have okI : ∀ c ∈ o.cells, ltIds (nid N L'.length) c → ∀ i ∈ c.ids, (⟨A', N, L' ++ J⟩ : AHeap).get (id i) ≠ .free → (⟨A', N, L'⟩ : AHeap).get i ≠ .free := fun c hc hlt i hi hf => by
      rw [← agree i (hlt i hi)]; exact hf
    have emap : ∀ o : AObj, (⟨o.cells.map (Cell.mapIds id), o.own⟩ : AObj) = o := by
      intro o
      have e : o.cells.map (Cell.mapIds id) = o.cells := by
        conv => rhs; rw [← List.map_id o.cells]
        exact List.map_congr_left fun x _ => mapIds_id x
      rw [e]
    rw [emap]
    have hk2 := (agree k hkM).trans hk
    simp only [AHeap.get] at hk
    split at hk
    · rename_i hkN
      by_cases e : A' k = A k
      · left
        refine ⟨?_, hk2⟩
        simp only [AHeap.get, hkN, if_true]
        rw [← e]; exact hk
      · right
        exact ⟨hk2, fun c hc => okI c hc ((hA k hkN e).2 o hk c hc)⟩
    · rename_i hkN
      have hj : L'[k - N]? = some (.live o) := by
        rw [List.getD_eq_getElem?_getD] at hk
        cases hq : L'[k - N]? with
        | none => rw [hq] at hk; cases hk
        | some s => rw [hq] at hk; simp at hk; rw [hk]
      rcases hL (k - N) o hj with hh | hh
      · left
        refine ⟨?_, hk2⟩
        simp only [AHeap.get, hkN, if_false, List.getD_eq_getElem?_getD, hh, Option.getD_some]
      · right
        exact ⟨hk2, fun c hc => okI c hc (hh c hc)⟩
end Go.Abs



/- Code over the abstract heap: what is to be shown of a function's text, and its contract from that. -/
set_option linter.unusedVariables false
namespace Go.Abs
open Go.RowKit (Below)

/-! ### A region's condition -/
structure SOp where
  dst : Option Tmp
  op : Op
  g : Option (Tmp × Bool)

def sop (ops : Array Oper) (o : Oper) : SOp := ⟨o.dst, o.op, o.guard.bind fun p => (dstOf ops p.1).map fun d => (d, p.2)⟩
def prep (ops : Array Oper) : List SOp := ops.toList.map (sop ops)
def guardsOk (ops : Array Oper) : Bool := ops.toList.all fun o => match o.guard with | none => true | some p => (dstOf ops p.1).isSome

def quiet : Op → Bool
  | .move _ | .assign _ | .pick .. | .build .. | .binOp .. | .unOp .. | .convert .. | .makeFunc .. | .fieldAddr .. | .indexAddr .. | .index .. | .extract .. | .nilCheck _ => true
  | .call c => match c.callee with | .builtin .len => true | _ => false
  | _ => false

theorem binE_mono {P : Program} {op : BinOp} {t : TypeId} {a b : AV} {K K' : AV → Prop} (hm : ∀ v, K v → K' v) (h : binE P op t a b K) : binE P op t a b K' := by
  cases a with
  | c x =>
    cases b with
    | c y =>
      cases x <;> cases y <;> try exact h
      · cases op <;> simp only [binE] at h ⊢ <;> first | exact h | exact ⟨h.1, hm _ h.2⟩ | exact ⟨h.1, h.2.1, hm _ h.2.2⟩
      · cases op <;> simp only [binE] at h ⊢ <;> first | exact h | exact ⟨h.1, hm _ h.2⟩
    | _ => cases x <;> exact h
  | agg xs =>
    cases b with
    | agg ys => cases op <;> simp only [binE] at h ⊢ <;> first | exact h | exact ⟨h.1, h.2.1, h.2.2.1, hm _ h.2.2.2⟩
    | _ => exact h
  | _ => exact h

theorem opE_quiet {P : Program} {op : Op} {ρ : Operand → AV} {h : AHeap} {K : Kont} (hk : opE P op ρ h K) : opE P op ρ h fun v r w => (quiet op = true → r = [] ∧ w = []) ∧ K v r w := by
  by_cases hq : quiet op = true
  · have z : ∀ {p : Prop}, p → (quiet op = true → ([] : List (Nat × AObj)) = [] ∧ ([] : List (Nat × Slot)) = []) ∧ p := fun hp => ⟨fun _ => ⟨rfl, rfl⟩, hp⟩
    cases op with
    | move x => exact z hk
    | assign x => exact z hk
    | pick c a b => obtain ⟨t, h1, h2, h3⟩ := hk; exact ⟨t, h1, fun e => z (h2 e), fun e => z (h3 e)⟩
    | build t parts => obtain ⟨ti, cs, h1, h2, h3, h4⟩ := hk; exact ⟨ti, cs, h1, h2, h3, z h4⟩
    | binOp op t x y t' => exact binE_mono (op := op) (t := t) (a := ρ x) (b := ρ y) (K := fun v => K v [] []) (fun v hv => z hv) hk
    | unOp op t x =>
      cases op with
      | not => obtain ⟨b, h1, h2⟩ := hk; exact ⟨b, h1, z h2⟩
      | neg => obtain ⟨k, n, h1, h2⟩ := hk; exact ⟨k, n, h1, z h2⟩
      | _ => exact hk
    | convert s d x => obtain ⟨ti, ti', k, k', n, h1, h2, h3, h4, h5⟩ := hk; exact ⟨ti, ti', k, k', n, h1, h2, h3, h4, z h5⟩
    | makeFunc f first cap =>
      cases f with
      | func f => obtain ⟨h1, ps, h2, h3⟩ := hk; exact ⟨h1, ps, h2, z h3⟩
      | _ => exact hk
    | fieldAddr s x f => obtain ⟨ti, fs, off', sz, k, off, h1, h2, h3, h4, h5, h6⟩ := hk; exact ⟨ti, fs, off', sz, k, off, h1, h2, h3, h4, h5, z h6⟩
    | indexAddr t x ix =>
      obtain ⟨ti, ki, i, h1, h2, h3⟩ := hk
      refine ⟨ti, ki, i, h1, h2, ?_⟩
      split at h3
      · exact ⟨h3.1, h3.2.1, z h3.2.2⟩
      · exact ⟨h3.1, h3.2.1, h3.2.2.1, z h3.2.2.2⟩
      · exact h3
    | index t x ix =>
      obtain ⟨ti, ki, i, n, es, ea, cs, h1, h2, h3, h4, h5, h6, h7⟩ := hk
      refine ⟨ti, ki, i, n, es, ea, cs, h1, h2, h3, h4, h5, h6, ?_⟩
      split at h7
      · rename_i he; rw [if_pos he]; exact ⟨h7.1, z h7.2⟩
      · rename_i he; rw [if_neg he]; obtain ⟨c, h8, h9⟩ := h7; exact ⟨c, h8, z h9⟩
    | extract x i => obtain ⟨vs, v, h1, h2, h3⟩ := hk; exact ⟨vs, v, h1, h2, z h3⟩
    | nilCheck x => obtain ⟨k, off, h1, h2⟩ := hk; exact ⟨k, off, h1, z h2⟩
    | call c =>
      have hc : c.callee = .builtin .len := by
        simp only [quiet] at hq
        split at hq
        · assumption
        · cases hq
      obtain ⟨callee, args, ats⟩ := c
      simp only at hc
      subst hc
      obtain ⟨t, x, ti, h1, h2, h3, h4⟩ := hk
      refine ⟨t, x, ti, h1, h2, h3, ?_⟩
      split at h4
      · exact z h4
      · exact z h4
      · exact z h4
      · exact z h4
      · exact h4
    | _ => simp [quiet] at hq
  · have e : (fun v r w => (quiet op = true → r = [] ∧ w = []) ∧ K v r w) = K := by
      funext v r w
      simp [hq]
    rw [e]; exact hk

abbrev Foot := List (Nat × List Nat × List Nat)
def consF (i : Nat) (rs : List (Nat × AObj)) (ws : List (Nat × Slot)) (F : Foot) : Foot :=
  match rs, ws with
  | [], [] => F
  | _, _ => (i, rs.map (·.1), ws.map (·.1)) :: F

def opsV (P : Program) : Nat → List SOp → List AV → AHeap → Foot → (List AV → AHeap → Foot → Prop) → Prop
  | _, [], T, h, F, K => K T h F
  | i, s :: rest, T, h, F, K =>
    match s.g with
    | none => opE P s.op (ev T) h fun v rs ws => opsV P (i + 1) rest (setT T s.dst v) (h.puts ws) (consF i rs ws F) K
    | some (d, want) => (∃ b, rd T d = .c (.bool b) ∧
      (b = want → opE P s.op (ev (T.set d (.c (.bool want)))) h fun v rs ws => opsV P (i + 1) rest (setT (T.set d (.c (.bool want))) s.dst v) (h.puts ws) (consF i rs ws F) K) ∧
      (b = (!want) → opsV P (i + 1) rest (setT (T.set d (.c (.bool !want))) s.dst (.tup [])) h F K)) ∨
      (rd T d = .tup [] ∧ opsV P (i + 1) rest (setT T s.dst (.tup [])) h F K)

def stOf (f : List (AV × List (Nat × AObj) × List (Nat × Slot))) (i : Nat) : St :=
  match f[i]? with
  | some x => ⟨x.1, x.2.1, x.2.2⟩
  | none => ⟨.any, [], []⟩

def footOf (i : Nat) (f : List (AV × List (Nat × AObj) × List (Nat × Slot))) : Foot → Foot :=
  fun F => (f.zipIdx i).foldl (fun F x => consF x.2 x.1.2.1 x.1.2.2 F) F

theorem set_self (T : List AV) (d : Nat) (v : AV) (h : rd T d = v) (hv : v ≠ .any) : T.set d v = T := by
  rw [rd_eq, List.getD_eq_getElem?_getD] at h
  apply List.ext_getElem?
  intro j
  rw [List.getElem?_set]
  split
  · rename_i e
    subst e
    split
    · rename_i hlt
      rw [List.getElem?_eq_getElem hlt] at h ⊢
      simpa using h.symm
    · rename_i hlt
      rw [List.getElem?_eq_none (by omega)]
  · rfl

/-- What the condition gives: the operations' values and footprints. -/
theorem opsV_run {P : Program} {ops : Array Oper} (hg : guardsOk ops = true) {K : List AV → AHeap → Foot → Prop} : ∀ (l : List Oper) (i : Nat) (T : List AV) (h : AHeap) (F : Foot), (∀ j, l[j]? = ops[i + j]?) → opsV P i (l.map (sop ops)) T h F K →
    ∃ (f : List (AV × List (Nat × AObj) × List (Nat × Slot))) (T' : List AV) (h' : AHeap), f.length = l.length ∧ K T' h' (footOf i f F) ∧ (∀ (j : Nat) o, l[j]? = some o → quiet o.op = true → (stOf f j).rs = [] ∧ (stOf f j).ws = []) ∧
      (∀ (j : Nat) o, l[j]? = some o → OkAt P ops o ((List.range j).foldl (fun T x => setT T (dstOf ops (i + x)) (stOf f x).val) T) ((List.range j).foldl (fun G x => putsG G (stOf f x).ws) h.get) (stOf f j)) ∧
      T' = (List.range l.length).foldl (fun T x => setT T (dstOf ops (i + x)) (stOf f x).val) T ∧ h'.get = (List.range l.length).foldl (fun G x => putsG G (stOf f x).ws) h.get
  | [], i, T, h, F, _, hv => ⟨[], T, h, rfl, hv, by simp, by simp, by simp, by simp⟩
  | o :: l, i, T, h, F, hl, hv => by
    have ho : ops[i]? = some o := by simpa using (hl 0).symm
    have hdst : dstOf ops i = o.dst := by unfold dstOf; rw [ho]; rfl
    have hl' : ∀ j, l[j]? = ops[i + 1 + j]? := fun j => by have := hl (j + 1); rw [show i + 1 + j = i + (j + 1) from by omega]; simpa using this
    have hmem : o ∈ ops.toList := by
      have := List.mem_of_getElem? (l := ops.toList) (a := o) (i := i) (by simpa using ho)
      exact this
    have glue : ∀ (v : AV) (rs : List (Nat × AObj)) (ws : List (Nat × Slot)) (h1 : AHeap), h1.get = putsG h.get ws → OkAt P ops o T h.get ⟨v, rs, ws⟩ → (quiet o.op = true → rs = [] ∧ ws = []) → opsV P (i + 1) (l.map (sop ops)) (setT T o.dst v) h1 (consF i rs ws F) K →
        ∃ (f : List (AV × List (Nat × AObj) × List (Nat × Slot))) (T' : List AV) (h' : AHeap), f.length = (o :: l).length ∧ K T' h' (footOf i f F) ∧ (∀ (j : Nat) o', (o :: l)[j]? = some o' → quiet o'.op = true → (stOf f j).rs = [] ∧ (stOf f j).ws = []) ∧
        (∀ (j : Nat) o', (o :: l)[j]? = some o' → OkAt P ops o' ((List.range j).foldl (fun T x => setT T (dstOf ops (i + x)) (stOf f x).val) T) ((List.range j).foldl (fun G x => putsG G (stOf f x).ws) h.get) (stOf f j)) ∧
        T' = (List.range (o :: l).length).foldl (fun T x => setT T (dstOf ops (i + x)) (stOf f x).val) T ∧ h'.get = (List.range (o :: l).length).foldl (fun G x => putsG G (stOf f x).ws) h.get := by
      intro v rs ws h1 hh1 hok hqt hv'
      obtain ⟨f, T', h', q1, q2, q6, q3, q4, q5⟩ := opsV_run hg l (i + 1) (setT T o.dst v) h1 (consF i rs ws F) hl' hv'
      have hs : ∀ x, stOf ((v, rs, ws) :: f) (x + 1) = stOf f x := fun x => by simp [stOf]
      have hs0 : stOf ((v, rs, ws) :: f) 0 = ⟨v, rs, ws⟩ := by simp [stOf]
      have eT : ∀ j, (List.range (j + 1)).foldl (fun T x => setT T (dstOf ops (i + x)) (stOf ((v, rs, ws) :: f) x).val) T = (List.range j).foldl (fun T x => setT T (dstOf ops (i + 1 + x)) (stOf f x).val) (setT T o.dst v) := by
        intro j
        rw [List.range_succ_eq_map, List.foldl_cons, List.foldl_map, hs0, Nat.add_zero, hdst]
        congr 1
        funext T x
        rw [hs, show i + (x + 1) = i + 1 + x from by omega]
      have eG : ∀ j, (List.range (j + 1)).foldl (fun G x => putsG G (stOf ((v, rs, ws) :: f) x).ws) h.get = (List.range j).foldl (fun G x => putsG G (stOf f x).ws) h1.get := by
        intro j
        rw [List.range_succ_eq_map, List.foldl_cons, List.foldl_map, hs0, hh1]
        rfl
      refine ⟨(v, rs, ws) :: f, T', h', by simp [q1], ?_, fun j o' hj hq => ?_, fun j o' hj => ?_, ?_, ?_⟩
      · have : footOf i ((v, rs, ws) :: f) F = footOf (i + 1) f (consF i rs ws F) := by simp [footOf, List.zipIdx_cons]
        rw [this]; exact q2
      · cases j with
        | zero => simp at hj; subst hj; rw [hs0]; exact hqt hq
        | succ j => rw [hs]; exact q6 j o' (by simpa using hj) hq
      · cases j with
        | zero => simp at hj; subst hj; rw [hs0]; simpa using hok
        | succ j =>
          rw [eT, eG, hs]
          exact q3 j o' (by simpa using hj)
      · rw [List.length_cons, eT]; exact q4
      · rw [List.length_cons, eG]; exact q5
    simp only [List.map_cons, opsV] at hv
    have hgo : ∀ j want, o.guard = some (j, want) → ∃ d, dstOf ops j = some d := by
      intro j want hgd
      unfold guardsOk at hg
      have := (List.all_eq_true.1 hg) o hmem
      rw [hgd] at this
      exact Option.isSome_iff_exists.1 this
    cases hgd : o.guard with
    | none =>
      simp only [sop, hgd, Option.bind_none] at hv
      obtain ⟨v, rs, ws, s1, s2, s3, s5, s4⟩ := opE_sound (o := o) (opE_quiet hv)
      exact glue v rs ws (h.puts ws) (AHeap.get_puts ws h) (.run (fun j want hh => by rw [hgd] at hh; cases hh) s1 s2 s3) s5 s4
    | some p =>
      obtain ⟨j, want⟩ := p
      obtain ⟨d, hd⟩ := hgo j want hgd
      simp only [sop, hgd, Option.bind_some, hd, Option.map_some] at hv
      rcases hv with ⟨b, hb, hv1, hv2⟩ | ⟨hb, hv2⟩
      rotate_left
      · exact glue (.tup []) [] [] h rfl (.skip j want d hgd hd (.inr hb) rfl rfl rfl) (fun _ => ⟨rfl, rfl⟩) hv2
      by_cases e : b = want
      · subst e
        have hset : T.set d (.c (.bool b)) = T := set_self T d _ hb (by simp)
        have hv1' := hv1 rfl
        rw [hset] at hv1'
        obtain ⟨v, rs, ws, s1, s2, s3, s5, s4⟩ := opE_sound (o := o) (opE_quiet hv1')
        exact glue v rs ws (h.puts ws) (AHeap.get_puts ws h) (.run (fun j' want' hh => by rw [hgd] at hh; cases hh; exact ⟨d, hd, hb⟩) s1 s2 s3) s5 s4
      · have e' : b = !want := by cases b <;> cases want <;> simp_all
        subst e'
        have hset : T.set d (.c (.bool !want)) = T := set_self T d _ hb (by simp)
        have hv2' := hv2 rfl
        rw [hset] at hv2'
        exact glue (.tup []) [] [] h rfl (.skip j want d hgd hd (.inl hb) rfl rfl rfl) (fun _ => ⟨rfl, rfl⟩) hv2'

/-! ### Code -/
def AWP (P : Program) (c : Code) (K : Exit → List AV → AHeap → Prop) (T : List AV) (h : AHeap) : Prop :=
  ∀ (B : Nat) (μ : LMap) (a : Act) (w : World), RepT μ T a → Rel B μ h.get w →
    c.wp P (fun e a' w' => ∃ μ' T' h', K e T' h' ∧ μ.le μ' ∧ RepT μ' T' a' ∧ Rel B μ' h'.get w' ∧ Below B w w') a w

section
variable {P : Program} {K : Exit → List AV → AHeap → Prop} {T : List AV} {h : AHeap}

theorem AWP.mono {c : Code} {K' : Exit → List AV → AHeap → Prop} (hc : AWP P c K T h) (hk : ∀ e T h, K e T h → K' e T h) : AWP P c K' T h :=
  fun B μ a w ht hr => wp_mono (hc B μ a w ht hr) fun e a' w' ⟨μ', T', h', h1, h2⟩ => ⟨μ', T', h', hk _ _ _ h1, h2⟩

theorem awp_skip (hk : K .normal T h) : AWP P .skip K T h :=
  fun _ μ _ w ht hr => wp_skip ⟨μ, T, h, hk, LMap.le_refl _, ht, hr, Below.refl _ _⟩
theorem awp_exit {id : Nat} (hk : K (.exit id) T h) : AWP P (.exit id) K T h :=
  fun _ μ _ w ht hr => wp_exit ⟨μ, T, h, hk, LMap.le_refl _, ht, hr, Below.refl _ _⟩
theorem awp_ret (hk : K .ret T h) : AWP P .ret K T h :=
  fun _ μ _ w ht hr => wp_ret ⟨μ, T, h, hk, LMap.le_refl _, ht, hr, Below.refl _ _⟩

def seqK (P : Program) (y : Code) (K : Exit → List AV → AHeap → Prop) : Exit → List AV → AHeap → Prop
  | .normal, T, h => AWP P y K T h
  | e, T, h => K e T h
theorem awp_seq {x y : Code} (hx : AWP P x (seqK P y K) T h) : AWP P (.seq x y) K T h := by
  intro B μ a w ht hr
  refine wp_seq (wp_mono (hx B μ a w ht hr) ?_)
  rintro e a' w' ⟨μ', T', h', h1, h2, h3, h4, h5⟩
  cases e with
  | normal =>
    exact wp_mono (h1 B μ' a' w' h3 h4) fun e a2 w2 ⟨μ2, T2, h2', g1, g2, g3, g4, g5⟩ => ⟨μ2, T2, h2', g1, LMap.le_trans h2 g2, g3, g4, h5.trans g5⟩
  | _ => exact ⟨μ', T', h', h1, h2, h3, h4, h5⟩

def blockK (id : Nat) (K : Exit → List AV → AHeap → Prop) : Exit → List AV → AHeap → Prop
  | .exit id', T, h => if id' = id then K .normal T h else K (.exit id') T h
  | e, T, h => K e T h
theorem blockK_normal {id : Nat} (hy : K .normal T h) : blockK id K .normal T h := hy
theorem blockK_exit {id : Nat} (hy : K .normal T h) : blockK id K (.exit id) T h := by simp [blockK, hy]
theorem blockK_exit_ne {id id' : Nat} (hne : id' ≠ id) (hy : K (.exit id') T h) : blockK id K (.exit id') T h := by simp [blockK, hne, hy]
theorem blockK_ret {id : Nat} (hy : K .ret T h) : blockK id K .ret T h := hy

theorem awp_block {id : Nat} {c : Code} (hc : AWP P c (blockK id K) T h) : AWP P (.block id c) K T h := by
  intro B μ a w ht hr
  refine wp_block (wp_mono (hc B μ a w ht hr) ?_)
  rintro e a' w' ⟨μ', T', h', h1, h2⟩
  cases e with
  | exit id' =>
    simp only [Exit.inBlock]
    simp only [blockK] at h1
    split
    · rename_i hid; rw [if_pos hid] at h1; exact ⟨μ', T', h', h1, h2⟩
    · rename_i hid; rw [if_neg hid] at h1; exact ⟨μ', T', h', h1, h2⟩
  | _ => exact ⟨μ', T', h', h1, h2⟩

theorem awp_cond {c : Operand} {x y : Code} (b : Bool) (hb : ev T c = .c (.bool b)) (h1 : b = true → AWP P x K T h) (h2 : b = false → AWP P y K T h) : AWP P (.cond c x y) K T h := by
  intro B μ a w ht hr
  have := ht.ev c
  rw [hb] at this
  have hv : a.eval c = .bool b := this.c_inv
  cases b with
  | true => exact wp_cond hv (h1 rfl B μ a w ht hr)
  | false => exact wp_cond hv (h2 rfl B μ a w ht hr)

theorem awp_region {id : Nat} {ops : Array Oper} (hg : guardsOk ops = true) (hv : opsV P 0 (prep ops) T h [] fun T' h' _ => K .normal T' h') : AWP P (.region id ops false) K T h := by
  intro B μ a w ht hr
  obtain ⟨f, T', h', q1, q2, _, q3, q4, q5⟩ := opsV_run hg ops.toList 0 T h [] (by simp) hv
  refine wp_region ?_
  rw [List.range_eq_range']
  have q1' : f.length = ops.size := by simpa using q1
  refine text_order (st := stOf f) (T0 := T) (G0 := h.get) (fun i o ho => ?_) ops.size 0 (by omega) μ a w (by simpa [TS] using ht) (by simpa [GS] using hr) (by simpa [GS] using h.fin) fun μ' a' w' g1 g2 g3 g4 => ⟨μ', T', h', q2, g1, ?_, ?_, g4⟩
  · have := q3 i o (by simpa using ho)
    simpa [TS, GS] using this
  · rw [q4]; simpa [TS] using g2
  · rw [q5]; simpa [GS] using g3
end
end Go.Abs



/- Regions that draw their order, loops, and a function's contract out of its text. -/
namespace Go.Abs
open Go.RowKit (Below)

/-! ### Which operations wait for which -/
def addAll (s l : List Nat) : List Nat := l.foldl (fun s x => if s.contains x then s else x :: s) s
theorem mem_addAll : ∀ (l s : List Nat) {y : Nat}, y ∈ addAll s l → y ∈ s ∨ y ∈ l
  | [], _, _, h => .inl h
  | x :: l, s, y, h => by
    have := mem_addAll l (if s.contains x then s else x :: s) (y := y) h
    rcases this with h1 | h1
    · split at h1
      · exact .inl h1
      · rcases List.mem_cons.1 h1 with rfl | h2
        · exact .inr (by simp)
        · exact .inl h2
    · exact .inr (by simp [h1])

def ancOf (acc : List (List Nat)) (es : List Edge) : List Nat := es.foldl (fun s e => if Region.binds .any e then addAll s (e.on :: acc.getD e.on []) else s) []
def ancs : List Oper → List (List Nat) → List (List Nat)
  | [], acc => acc
  | o :: os, acc => ancs os (acc ++ [ancOf acc o.after.toList])

theorem mem_ancOf {acc : List (List Nat)} : ∀ (es : List Edge) (s : List Nat) {y : Nat}, y ∈ es.foldl (fun s e => if Region.binds .any e then addAll s (e.on :: acc.getD e.on []) else s) s →
    y ∈ s ∨ ∃ e ∈ es, Region.binds .any e = true ∧ (y = e.on ∨ y ∈ acc.getD e.on [])
  | [], _, _, h => .inl h
  | e :: es, s, y, h => by
    rcases mem_ancOf es _ h with h1 | ⟨e', he', hb, hy⟩
    · dsimp only at h1
      split at h1
      · rename_i hb
        rcases mem_addAll _ _ h1 with h2 | h2
        · exact .inl h2
        · exact .inr ⟨e, by simp, hb, by simpa using h2⟩
      · exact .inl h1
    · exact .inr ⟨e', by simp [he'], hb, hy⟩

theorem ancs_bef {ops : Array Oper} : ∀ (l : List Oper) (acc : List (List Nat)), (∀ j, l[j]? = ops[acc.length + j]?) → (∀ (i : Nat) s, acc[i]? = some s → ∀ y ∈ s, Bef ops i y) → ∀ (i : Nat) s, (ancs l acc)[i]? = some s → ∀ y ∈ s, Bef ops i y
  | [], _, _, h => h
  | o :: l, acc, hl, h => by
    refine ancs_bef l _ (fun j => by have := hl (j + 1); simp only [List.length_append, List.length_cons, List.length_nil]; rw [show acc.length + (0 + 1) + j = acc.length + (j + 1) from by omega]; simpa using this) ?_
    intro i s hs y hy
    rw [List.getElem?_append] at hs
    split at hs
    · exact h i s hs y hy
    · rename_i hi
      have hi' : i = acc.length := by
        have := (List.getElem?_eq_some_iff.1 hs).1
        simp at this; omega
      subst hi'
      simp at hs
      subst hs
      have ho : ops[acc.length]? = some o := by simpa using (hl 0).symm
      rcases mem_ancOf _ _ hy with h1 | ⟨e, he, hb, h2⟩
      · cases h1
      · have hedge : Bef ops acc.length e.on := .edge ho (by simpa using he) hb
        rcases h2 with rfl | h2
        · exact hedge
        · rw [List.getD_eq_getElem?_getD] at h2
          cases hq : acc[e.on]? with
          | none => rw [hq] at h2; cases h2
          | some s' => rw [hq] at h2; exact .trans hedge (h e.on s' hq y (by simpa using h2))

/-- The static look: edges point backwards; who names a slot and who writes it wait for one another; and of two operations that touch memory one waits for the other, or the pair is listed. -/
def regOrd (ops : Array Oper) (U : List (Nat × Nat)) : Bool :=
  let A := ancs ops.toList []
  (ops.toList.zipIdx.all fun x => x.1.after.toList.all fun e => !(Region.binds .any e) || e.on < x.2) &&
  (ops.toList.zipIdx.all fun x => ops.toList.zipIdx.all fun y => x.2 == y.2 ||
    (match y.1.dst with
     | none => true
     | some d => !((x.1.looksAt ops).contains d || x.1.dst == some d) || (if y.2 < x.2 then (A.getD x.2 []).contains y.2 else (A.getD y.2 []).contains x.2)) &&
    (!(x.2 < y.2) || quiet x.1.op || quiet y.1.op || U.contains (x.2, y.2) || (A.getD y.2 []).contains x.2))

theorem mem_zipIdx' {α : Type} {l : List α} {i : Nat} {x : α} (h : l[i]? = some x) : (x, i) ∈ l.zipIdx := by
  rw [List.mem_zipIdx_iff_getElem?]; simpa using h

def lk : Foot → Nat → List Nat × List Nat
  | [], _ => ([], [])
  | (k, r, w) :: F, i => if k = i then (r, w) else lk F i
def notIn (k : Nat) : List Nat → Prop
  | [] => True
  | x :: l => k ≠ x ∧ notIn k l
def apart : List Nat → List Nat → Prop
  | [], _ => True
  | k :: l, l' => notIn k l' ∧ apart l l'
def confV : List (Nat × Nat) → Foot → Prop
  | [], _ => True
  | (i, j) :: U, F => (apart (lk F i).2 (lk F j).1 ∧ apart (lk F i).2 (lk F j).2 ∧ apart (lk F i).1 (lk F j).2) ∧ confV U F

theorem notIn_iff {k : Nat} : ∀ {l : List Nat}, notIn k l ↔ k ∉ l
  | [] => by simp [notIn]
  | x :: l => by simp [notIn, notIn_iff]
theorem apart_iff : ∀ {l l' : List Nat}, apart l l' ↔ ∀ k ∈ l, k ∉ l'
  | [], l' => by simp [apart]
  | k :: l, l' => by simp [apart, notIn_iff, apart_iff]
theorem confV_mem : ∀ {U : List (Nat × Nat)} {F : Foot}, confV U F → ∀ {i j : Nat}, (i, j) ∈ U → apart (lk F i).2 (lk F j).1 ∧ apart (lk F i).2 (lk F j).2 ∧ apart (lk F i).1 (lk F j).2
  | [], _, _, _, _, h => by cases h
  | (a, b) :: U, F, h, i, j, hm => by
    rcases List.mem_cons.1 hm with hm | hm
    · cases hm; exact h.1
    · exact confV_mem h.2 hm

theorem lk_footOf : ∀ (f : List (AV × List (Nat × AObj) × List (Nat × Slot))) (i : Nat) (F : Foot), (∀ x ∈ F, x.1 < i) → ∀ j, i ≤ j → j < i + f.length →
    lk (footOf i f F) j = ((stOf f (j - i)).rs.map (·.1), (stOf f (j - i)).ws.map (·.1))
  | [], _, _, _, j, h1, h2 => by simp at h2; omega
  | (v, rs, ws) :: f, i, F, hF, j, h1, h2 => by
    have hlk : ∀ F' : Foot, (∀ x ∈ F', x.1 < i) → lk F' i = ([], []) := by
      intro F' h
      induction F' with
      | nil => rfl
      | cons x F' ih =>
        obtain ⟨k, r, w⟩ := x
        have := h (k, r, w) (by simp)
        simp only at this
        simp only [lk]
        rw [if_neg (by omega)]
        exact ih fun y hy => h y (by simp [hy])
    have hc : ∀ x ∈ consF i rs ws F, x.1 < i + 1 := by
      intro x hx
      unfold consF at hx
      split at hx
      · have := hF x hx; omega
      · rcases List.mem_cons.1 hx with rfl | hx
        · simp
        · have := hF x hx; omega
    have e : footOf i ((v, rs, ws) :: f) F = footOf (i + 1) f (consF i rs ws F) := by simp [footOf, List.zipIdx_cons]
    rw [e]
    by_cases hj : j = i
    · subst hj
      have keep : ∀ (f : List (AV × List (Nat × AObj) × List (Nat × Slot))) (i : Nat) (F : Foot), j < i → lk (footOf i f F) j = lk F j := by
        intro f
        induction f with
        | nil => intro i F _; rfl
        | cons x f ih =>
          intro i F hi
          obtain ⟨v, rs, ws⟩ := x
          have e : footOf i ((v, rs, ws) :: f) F = footOf (i + 1) f (consF i rs ws F) := by simp [footOf, List.zipIdx_cons]
          rw [e, ih (i + 1) _ (by omega)]
          unfold consF
          split
          · rfl
          · simp only [lk]; rw [if_neg (by omega)]
      rw [keep f (j + 1) _ (by omega)]
      simp only [Nat.sub_self, stOf, List.getElem?_cons_zero]
      unfold consF
      split
      · rw [hlk F hF]; rfl
      · simp [lk]
    · have := lk_footOf f (i + 1) (consF i rs ws F) hc j (by omega) (by simp at h2; omega)
      rw [this]
      have es : stOf ((v, rs, ws) :: f) (j - i) = stOf f (j - (i + 1)) := by
        rw [show j - i = (j - (i + 1)) + 1 from by omega]; simp [stOf]
      rw [es]

section
variable {P : Program} {K : Exit → List AV → AHeap → Prop} {T : List AV} {h : AHeap}

theorem awp_regionD {id : Nat} {ops : Array Oper} (U : List (Nat × Nat)) (hm : P.follows .mixedOrders = true) (hg : guardsOk ops = true) (ho : regOrd ops U = true)
    (hv : opsV P 0 (prep ops) T h [] fun T' h' F => confV U F ∧ K .normal T' h') : AWP P (.region id ops true) K T h := by
  intro B μ a w ht hr
  obtain ⟨f, T', h', q1, q2, q6, q3, q4, q5⟩ := opsV_run hg ops.toList 0 T h [] (by simp) hv
  have q1' : f.length = ops.size := by simpa using q1
  have hall : ∀ i o, ops[i]? = some o → OkAt P ops o (TS ops (stOf f) T (List.range i)) (GS (stOf f) h.get (List.range i)) (stOf f i) := fun i o ho => by
    have := q3 i o (by simpa using ho)
    simpa [TS, GS] using this
  have hord : Ordered ops (stOf f) := by
    unfold regOrd at ho
    simp only [Bool.and_eq_true, List.all_eq_true] at ho
    obtain ⟨ho1, ho2⟩ := ho
    have anc : ∀ i j, ((ancs ops.toList []).getD i []).contains j = true → Bef ops i j := by
      intro i j hc
      have hc' : j ∈ (ancs ops.toList []).getD i [] := by simpa using hc
      rw [List.getD_eq_getElem?_getD] at hc'
      cases hq : (ancs ops.toList [])[i]? with
      | none => rw [hq] at hc'; cases hc'
      | some s => rw [hq] at hc'; exact ancs_bef ops.toList [] (by simp) (by simp) i s hq j (by simpa using hc')
    refine ⟨fun i o hi e he hb => ?_, fun i j oi oj d hi hj hne hd hor => ?_, fun i j k hij hj hk => ?_⟩
    · have := ho1 (o, i) (mem_zipIdx' (by simpa using hi)) e (by simpa using he)
      simpa [hb] using this
    · have h1 := ho2 (oi, i) (mem_zipIdx' (by simpa using hi)) (oj, j) (mem_zipIdx' (by simpa using hj))
      simp only [hd] at h1
      have hne' : (i == j) = false := by simpa using hne
      have hcon : ((oi.looksAt ops).contains d || oi.dst == some d) = true := by
        rcases hor with h | h
        · simp [h]
        · simp [h]
      rw [hne', hcon] at h1
      simp only [Bool.false_or, Bool.not_true, Bool.and_eq_true] at h1
      obtain ⟨h1, _⟩ := h1
      constructor
      · intro hlt; rw [if_pos hlt] at h1; exact anc i j h1
      · intro hlt; rw [if_neg (by omega)] at h1; exact anc j i h1
    · have hi : i < ops.size := by omega
      have hio : ops[i]? = some ops[i] := Array.getElem?_eq_getElem hi
      have hjo : ops[j]? = some ops[j] := Array.getElem?_eq_getElem hj
      have h1 := ho2 (ops[i], i) (mem_zipIdx' (by simp [hio])) (ops[j], j) (mem_zipIdx' (by simp [hjo]))
      have hne' : (i == j) = false := by simp; omega
      rw [hne'] at h1
      simp only [Bool.false_or, Bool.and_eq_true] at h1
      have h2 := h1.2
      simp only [Bool.or_eq_true, hij, decide_true, Bool.not_true, Bool.false_eq_true, false_or] at h2
      have e1 := lk_footOf f 0 [] (by simp) i (by omega) (by omega)
      have e2 := lk_footOf f 0 [] (by simp) j (by omega) (by omega)
      simp only [Nat.sub_zero] at e1 e2
      rcases h2 with ((hq | hq) | hU) | hA
      · obtain ⟨r1, r2⟩ := q6 i _ (by simp [hio]) hq
        rw [r1, r2] at hk
        simp [ids, idsW] at hk
      · obtain ⟨r1, r2⟩ := q6 j _ (by simp [hjo]) hq
        rw [r1, r2] at hk
        simp [ids, idsW] at hk
      · exfalso
        obtain ⟨c1, c2, c3⟩ := confV_mem q2.1 (by simpa using hU : (i, j) ∈ U)
        rw [e1, e2] at c1 c2 c3
        rw [apart_iff] at c1 c2 c3
        rcases hk with ⟨k1, k2 | k2⟩ | ⟨k1, k2⟩
        · exact c1 k k1 k2
        · exact c2 k k1 k2
        · exact c3 k k1 k2
      · exact anc j i hA
  refine wp_region_any hm ?_
  have hsel : sel ops.size (Array.replicate ops.size false) = [] := by
    unfold sel
    refine List.filter_eq_nil_iff.2 fun i hi => ?_
    have : i < ops.size := by simpa using hi
    simp [this]
  have hunl : (unl ops.size (Array.replicate ops.size false)).length = ops.size := by
    unfold unl
    rw [List.filter_eq_self.2]
    · simp
    · intro i hi
      have : i < ops.size := by simpa using hi
      simp [this]
  refine any_order (st := stOf f) (T0 := T) (G0 := h.get) (B := B) hord hall (w0 := w) (μ0 := μ) h.fin (fun μ' a' w' g1 g2 g3 g4 => ⟨μ', T', h', q2.2, g1, ?_, ?_, g4⟩) ops.size _ μ a _ (by simp) hunl ?_ (by rw [hsel]; exact ht) (by rw [hsel]; exact hr.drew) (LMap.le_refl _) ((Below.refl _ _).drew)
  · intro i o hi hl
    have hi' : i < ops.size := by
      rcases Nat.lt_or_ge i ops.size with hh | hh
      · exact hh
      · rw [Array.getElem?_eq_none hh] at hi; cases hi
    simp [hi'] at hl
  · rw [q4]; simpa [TS] using g2
  · rw [q5]; simpa [GS] using g3

/-! ### Loops -/
theorem wp_loopN {c : Code} {Q : Exit → Act → World → Prop} (J : Nat → Act → World → Prop) (round : ∀ n a w, J n a w → c.wp P (Exit.then (fun a' w' => ∃ m, m < n ∧ J m a' w') Q) a w) : ∀ {n : Nat} {a : Act} {w : World}, J n a w → (Code.loop c).wp P Q a w := by
  have key : ∀ n a w, J n a w → ∀ (b : Frame) (k : List Item) (cs : List Frame), ∃ e a' w', Q e a' w' ∧ Arrives P (lone (b.at a (.code c :: .inLoop c :: k)) cs w) b k cs e a' w' := by
    intro n
    induction n using Nat.strongRecOn with
    | _ n ih =>
      intro a w hJ b k cs
      obtain ⟨e, a₁, w₁, hq, harr⟩ := round n a w hJ b (.inLoop c :: k) cs
      cases e with
      | normal =>
        obtain ⟨m, hm, hJ₁⟩ := hq
        obtain ⟨e₂, a₂, w₂, hq₂, harr₂⟩ := ih m hm a₁ w₁ hJ₁ b k cs
        exact ⟨e₂, a₂, w₂, hq₂, .of_steps (Steps.trans harr (.one step_inLoop)) harr₂⟩
      | exit id => exact ⟨_, a₁, w₁, hq, .pass (x := .inLoop c) rfl (fun _ _ => .inl (by simp)) harr⟩
      | goto l => exact ⟨_, a₁, w₁, hq, .pass (x := .inLoop c) rfl (fun _ _ => .inl (by simp)) harr⟩
      | ret => exact ⟨_, a₁, w₁, hq, .pass (x := .inLoop c) rfl (fun _ _ => .inl (by simp)) harr⟩
      | panic ch => exact ⟨_, a₁, w₁, hq, .pass (x := .inLoop c) rfl (fun _ _ => .inl (by simp)) harr⟩
      | outgrown => exact ⟨_, a₁, w₁, hq, .pass (x := .inLoop c) rfl (fun _ _ => .inl (by simp)) harr⟩
  intro n a w hJ b k cs
  obtain ⟨e, a', w', hq, harr⟩ := key n a w hJ b k cs
  exact ⟨e, a', w', hq, .of_steps (.one step_loop) harr⟩

/-- The end of a round: a relation with a smaller measure, some things forgotten. -/
def loopK (I : Nat → List AV → AHeap → Prop) (n : Nat) (h : AHeap) (K : Exit → List AV → AHeap → Prop) : Exit → List AV → AHeap → Prop
  | .normal, T', h' => ∃ m T'' h'', m < n ∧ I m T'' h'' ∧ Weak h T' h' T'' h''
  | e, T', h' => K e T' h'
theorem loopK_exit {I : Nat → List AV → AHeap → Prop} {n : Nat} {h0 : AHeap} {id : Nat} (hy : K (.exit id) T h) : loopK I n h0 K (.exit id) T h := hy
theorem loopK_ret {I : Nat → List AV → AHeap → Prop} {n : Nat} {h0 : AHeap} (hy : K .ret T h) : loopK I n h0 K .ret T h := hy

/-- Slots may be forgotten at any place. -/
def TLe : List AV → List AV → Prop
  | [], [] => True
  | a :: as_, b :: bs => (b = .any ∨ b = a) ∧ TLe as_ bs
  | _, _ => False
theorem TLe.rep {μ : LMap} {T T' : List AV} {a : Act} (hl : TLe T T') (ht : RepT μ T a) : RepT μ T' a := by
  have len : ∀ {T T' : List AV}, TLe T T' → T.length = T'.length := by
    intro T
    induction T with
    | nil => intro T' h; cases T' with
      | nil => rfl
      | cons => exact h.elim
    | cons a T ih => intro T' h; cases T' with
      | nil => exact h.elim
      | cons b T' => simp [ih h.2]
  have get : ∀ {T T' : List AV}, TLe T T' → ∀ (i : Nat) b, T'[i]? = some b → b = .any ∨ T[i]? = some b := by
    intro T
    induction T with
    | nil => intro T' h i b hb; cases T' with
      | nil => simp at hb
      | cons => exact h.elim
    | cons a T ih => intro T' h i b hb; cases T' with
      | nil => exact h.elim
      | cons c T' =>
        cases i with
        | zero => simp at hb; subst hb; rcases h.1 with h1 | h1
                  · exact .inl h1
                  · exact .inr (by simp [h1])
        | succ i => simpa using ih h.2 i b (by simpa using hb)
  refine ⟨ht.defers, ht.size.trans (len hl), fun i b hb => ?_⟩
  rcases get hl i b hb with rfl | h'
  · have hi : i < a.tmps.size := by
      rw [ht.size, len hl]; exact (List.getElem?_eq_some_iff.1 hb).1
    exact ⟨a.tmps[i], Array.getElem?_eq_getElem hi, .any⟩
  · exact ht.get i b h'
theorem awp_forget {c : Code} {T' : List AV} (hl : TLe T T') (hc : AWP P c K T' h) : AWP P c K T h := fun B μ a w ht hr => hc B μ a w (hl.rep ht) hr
end

/-! ### A contract -/
/-- One result. -/
def resOne (P : Program) (T : List AV) (h : AHeap) : ResultVar → AV → Prop
  | .tmp t, v => v = rd T t
  | .cell a t, v => ∃ ti k off ob, tyOf P t = some ti ∧ rd T a = .c (.ptr k off) ∧ h.get k = .live ob ∧
      (if ti.agg then off + ti.size ≤ ob.cells.length ∧ v = .agg ((ob.cells.drop off).take ti.size) else ∃ c, ob.cells[off]? = some c ∧ v = .c c)
def resAll (P : Program) (T : List AV) (h : AHeap) : List ResultVar → List AV → Prop
  | [], [] => True
  | r :: rs, v :: vs => resOne P T h r v ∧ resAll P T h rs vs
  | _, _ => False
def resOf : List AV → AV
  | [v] => v
  | vs => .tup vs

def resSem (tmps : Array Value) : ResultVar → Sem Value
  | .tmp t => pure (tmps.getD t undef)
  | .cell a t => do loadVar t (← asAddr (tmps.getD a undef))

theorem resOne_rep {P : Program} {μ : LMap} {B : Nat} {T : List AV} {h : AHeap} {a : Act} {w : World} (ht : RepT μ T a) (hR : Rel B μ h.get w) {r : ResultVar} {v : AV} (hr : resOne P T h r v) :
    ∃ u, (resSem a.tmps r).run P w = .ok u w ∧ RepV μ v u := by
  cases r with
  | tmp t =>
    simp only [resOne] at hr
    subst hr
    exact ⟨_, rfl, ht.ev (.tmp t)⟩
  | cell x t =>
    obtain ⟨ti, k, off, ob, h1, h2, h3, h4⟩ := hr
    have hv := ht.ev (.tmp x)
    simp only [ev, h2] at hv
    obtain ⟨l, hl, he⟩ := hv.c_inv
    simp only [Act.eval] at he
    have hrun := run_loadVar_obj hR h3 hl (off := off) h1
    have hA : (asAddr (a.tmps.getD x undef)).run P w = .ok ⟨l.b, l.base + off, none⟩ w := by rw [he]; rfl
    cases hag : ti.agg with
    | true =>
      rw [hag] at h4 hrun
      simp only [if_true] at h4 hrun
      obtain ⟨vs, g1, g2⟩ := hrun h4.1
      refine ⟨_, ?_, by rw [h4.2]; exact .agg g2⟩
      simp only [resSem, Sem.run_bind, hA, Result.andThen_ok, g1]
    | false =>
      rw [hag] at h4 hrun
      simp only [Bool.false_eq_true, if_false] at h4 hrun
      obtain ⟨c, g0, g1⟩ := h4
      obtain ⟨u, g2, g3⟩ := hrun c g0
      refine ⟨u, ?_, by rw [g1]; exact .c g3⟩
      simp only [resSem, Sem.run_bind, hA, Result.andThen_ok, g2]

theorem resAll_rep {P : Program} {μ : LMap} {B : Nat} {T : List AV} {h : AHeap} {a : Act} {w : World} (ht : RepT μ T a) (hR : Rel B μ h.get w) : ∀ {rs : List ResultVar} {vs : List AV}, resAll P T h rs vs →
    ∃ us : List Value, (rs.mapM (resSem a.tmps)).run P w = .ok us w ∧ vs.length = us.length ∧ ∀ (i : Nat) v u, vs[i]? = some v → us[i]? = some u → RepV μ v u
  | [], [], _ => ⟨[], by simp, rfl, by simp⟩
  | r :: rs, v :: vs, hr => by
    obtain ⟨u, h1, h2⟩ := resOne_rep ht hR hr.1
    obtain ⟨us, h3, h4, h5⟩ := resAll_rep ht hR hr.2
    refine ⟨u :: us, by simp only [List.mapM_cons, Sem.run_bind, h1, h3, Result.andThen_ok, Sem.run_pure], by simp [h4], fun i x y hx hy => ?_⟩
    cases i with
    | zero => simp at hx hy; subst hx hy; exact h2
    | succ i => exact h5 i x y (by simpa using hx) (by simpa using hy)
  | [], _ :: _, h => h.elim
  | _ :: _, [], h => h.elim

/-- How what a body leaves is what a contract says: 'ren': the objects that it hands out, by the caller's names and its own places. -/
structure Final (G : Heap) (N : Nat) (h : AHeap) (r : AV) (val : AV) (writes : List (Nat × Slot)) (σ : Nat → Nat) : Prop where
  keep : ∀ k, G k ≠ .free → σ k = k
  obj : ∀ k o, putsG G writes k = .live o → (G k = .live o ∧ h.get k = .live o) ∨
    (h.get (σ k) = .live ⟨o.cells.map (Cell.mapIds σ), o.own⟩ ∧ ∀ c ∈ o.cells, ∀ i ∈ c.ids, h.get (σ i) ≠ .free → putsG G writes i ≠ .free)
  nofree : ∀ k, G k ≠ .free → putsG G writes k ≠ .free
  inj : ∀ k k' o o', putsG G writes k = .live o → putsG G writes k' = .live o' → o.own = true → o'.own = true → k ≠ k' → σ k ≠ σ k'
  val : Named σ (fun i => h.get (σ i) ≠ .free → putsG G writes i ≠ .free) val r

def retK (P : Program) (fn : Func) (G : Heap) (N : Nat) (val : AV) (writes : List (Nat × Slot)) : Exit → List AV → AHeap → Prop
  | .normal, T, h => ∃ vs σ, resAll P T h fn.results.toList vs ∧ Final G N h (resOf vs) val writes σ
  | .ret, T, h => ∃ vs σ, resAll P T h fn.results.toList vs ∧ Final G N h (resOf vs) val writes σ
  | _, _, _ => False

theorem FSpec.of_body {P : Program} {f : FuncId} {fn : Func} {c : Code} {args : List AV} {val : AV} {reads : List (Nat × AObj)} {writes : List (Nat × Slot)} (hf : P.funcs[f]? = some fn) (hb : fn.body = some c) (hc : callable P f = true) (hn : args.length ≤ fn.ntmps)
    (H : ∀ (G : Heap) (N : Nat), (∀ k, N ≤ k → G k = .free) → (∀ p ∈ reads, G p.1 = .live p.2 ∧ p.1 < N) → (∀ p ∈ writes, p.1 < N ∧ ((∃ ob, (p.1, ob) ∈ reads) ∨ G p.1 = .free)) →
      AWP P c (retK P fn G N val writes) (args ++ List.replicate (fn.ntmps - args.length) .any) ⟨G, N, []⟩) : FSpec P f args val reads writes := by
  refine ⟨hc, fun B μ G w vs hR hfin hreads hwrites hargs => ?_⟩
  obtain ⟨M, hM⟩ := hfin
  obtain ⟨M2, hM2⟩ : ∃ M2, ∀ p ∈ writes, p.1 < M2 := by
    clear H hwrites
    induction writes with
    | nil => exact ⟨0, by simp⟩
    | cons p ws ih =>
      obtain ⟨m, hm⟩ := ih
      exact ⟨max m (p.1 + 1), fun q hq => by
        rcases List.mem_cons.1 hq with rfl | hq
        · omega
        · have := hm q hq; omega⟩
  have hlt : ∀ p ∈ reads, p.1 < max M M2 := by
    intro p hp
    rcases Nat.lt_or_ge p.1 M with h1 | h1
    · omega
    · have := hM p.1 h1; rw [hreads p hp] at this; cases this
  have hget : (⟨G, max M M2, []⟩ : AHeap).get = G := by
    funext k
    simp only [AHeap.get]
    split
    · rfl
    · rw [hM k (by omega)]; simp
  have hlen : ∀ {as_ : List AV} {vs : List Value}, RepVs μ as_ vs → as_.length = vs.length := by
    intro as_
    induction as_ with
    | nil => intro vs h; cases vs with
      | nil => rfl
      | cons => exact h.elim
    | cons a as_ ih => intro vs h; cases vs with
      | nil => exact h.elim
      | cons v vs => simp [ih h.2]
  have hgetA : ∀ {as_ : List AV} {vs : List Value}, RepVs μ as_ vs → ∀ (i : Nat) a, as_[i]? = some a → ∃ v, vs[i]? = some v ∧ RepV μ a v := by
    intro as_
    induction as_ with
    | nil => intro vs _ i a h; simp at h
    | cons a as_ ih => intro vs h i x hx; cases vs with
      | nil => exact h.elim
      | cons v vs =>
        cases i with
        | zero => simp at hx; subst hx; exact ⟨v, rfl, h.1⟩
        | succ i => simpa using ih h.2 i x (by simpa using hx)
  have hal := hlen hargs
  refine calls_of_wp hf hb ?_
  have hT : RepT μ (args ++ List.replicate (fn.ntmps - args.length) .any) { tmps := vs.toArray ++ Array.replicate (fn.ntmps - vs.toArray.size) undef, defers := [] } := by
    refine ⟨rfl, by simp; omega, fun i x hx => ?_⟩
    rw [List.getElem?_append] at hx
    split at hx
    · rename_i hi
      obtain ⟨v, hv, hr⟩ := hgetA hargs i x hx
      refine ⟨v, ?_, hr⟩
      rw [Array.getElem?_append_left (by simp; omega)]
      simpa using hv
    · rename_i hi
      rw [List.getElem?_replicate] at hx
      split at hx
      · rename_i hi2
        simp at hx; subst hx
        have hi3 : i < (vs.toArray ++ Array.replicate (fn.ntmps - vs.toArray.size) undef).size := by simp; omega
        exact ⟨_, Array.getElem?_eq_getElem hi3, .any⟩
      · cases hx
  have hW := H G (max M M2) (fun k hk => hM k (by omega)) (fun p hp => ⟨hreads p hp, hlt p hp⟩) (fun p hp => ⟨by have := hM2 p hp; omega, hwrites p hp⟩) B μ _ w hT (by rw [hget]; exact hR)
  refine wp_mono hW ?_
  rintro e a' w' ⟨μ', T', h', h1, h2, h3, h4, h5⟩
  have fin : (∃ vs σ, resAll P T' h' fn.results.toList vs ∧ Final G (max M M2) h' (resOf vs) val writes σ) → a'.defers = [] ∧ ∃ v, (results fn a'.tmps).run P w' = .ok v w' ∧
      ∃ v2 μ2, Ending.returned v = .returned v2 ∧ μ.le μ2 ∧ RepV μ2 val v2 ∧ Rel B μ2 (putsG G writes) w' ∧ Below B w w' := by
    rintro ⟨as_, σ, g1, g2⟩
    obtain ⟨us, r1, r2, r3⟩ := resAll_rep h3 h4 g1
    obtain ⟨μ2, m1, m2, m3⟩ := hR.restrict h4 h2 σ (fun k hk => ⟨g2.nofree k hk, g2.keep k hk⟩) g2.obj g2.inj
    have hrun : (results fn a'.tmps).run P w' = .ok (if h : us.toArray.size = 1 then us.toArray[0] else .tuple us.toArray) w' := by
      unfold results
      simp only [Sem.run_bind]
      rw [Array.mapM_eq_mapM_toList]
      simp only [Sem.run_map]
      show Result.andThen (Result.andThen ((fn.results.toList.mapM (resSem a'.tmps)).run P w') _) _ = _
      rw [r1]
      rfl
    have hrep : RepV μ' (resOf as_) (if h : us.toArray.size = 1 then us.toArray[0] else .tuple us.toArray) := by
      match as_, us, r2, r3 with
      | [], [], _, _ => exact .tup rfl (by simp)
      | [a], [u], _, r3 => exact r3 0 a u rfl rfl
      | a :: b :: as_, u :: v :: us, r2, r3 =>
        have : ¬ (u :: v :: us).toArray.size = 1 := by simp
        rw [dif_neg this]
        exact .tup r2 r3
      | [], _ :: _, r2, _ => simp at r2
      | _ :: _, [], r2, _ => simp at r2
      | [_], _ :: _ :: _, r2, _ => simp at r2
      | _ :: _ :: _, [_], r2, _ => simp at r2
    exact ⟨h3.defers, _, hrun, _, μ2, rfl, m1, m3 _ _ _ g2.val hrep, m2, h5⟩
  cases e with
  | normal => exact fin h1
  | ret => exact fin h1
  | _ => exact h1.elim
end Go.Abs



/- A function's text in short: regions as plain lists of operations, their static looks taken once. -/
namespace Go.Abs
open Go.RowKit (Below)

inductive SCode where
  | skip
  | ops (l : List SOp)
  | opsD (l : List SOp) (U : List (Nat × Nat))
  | seq (a b : SCode)
  | cond (c : Operand) (a b : SCode)
  | block (id : Nat) (c : SCode)
  | loop (c : SCode)
  | exit (id : Nat)
  | ret

def unordP (ops : Array Oper) : List (Nat × Nat) :=
  let A := ancs ops.toList []
  ops.toList.zipIdx.flatMap fun x => (ops.toList.zipIdx.filter fun y => x.2 < y.2 && !quiet x.1.op && !quiet y.1.op && !(A.getD y.2 []).contains x.2).map fun y => (x.2, y.2)

def lower : Code → Option SCode
  | .skip => some .skip
  | .region _ ops draw =>
    match draw with
    | false => if guardsOk ops then some (.ops (prep ops)) else none
    | true => if guardsOk ops && regOrd ops (unordP ops) then some (.opsD (prep ops) (unordP ops)) else none
  | .seq a b => match lower a, lower b with | some x, some y => some (.seq x y) | _, _ => none
  | .cond c a b => match lower a, lower b with | some x, some y => some (.cond c x y) | _, _ => none
  | .block id c => match lower c with | some x => some (.block id x) | none => none
  | .loop c => match lower c with | some x => some (.loop x) | none => none
  | .exit id => some (.exit id)
  | .ret => some .ret
  | _ => none

def SWP (P : Program) (s : SCode) (K : Exit → List AV → AHeap → Prop) (T : List AV) (h : AHeap) : Prop := ∀ c, lower c = some s → AWP P c K T h

section
variable {P : Program} {K : Exit → List AV → AHeap → Prop} {T : List AV} {h : AHeap}

theorem lower_seq {c : Code} {x y : SCode} (hl : lower c = some (.seq x y)) : ∃ a b, c = .seq a b ∧ lower a = some x ∧ lower b = some y := by
  cases c <;> simp only [lower, reduceCtorEq] at hl
  case region => split at hl <;> split at hl <;> cases hl
  case seq a b =>
    split at hl
    · rename_i h1 h2; cases hl; exact ⟨a, b, rfl, h1, h2⟩
    · cases hl
  all_goals first | cases hl | (split at hl <;> cases hl)
theorem lower_cond {c : Code} {o : Operand} {x y : SCode} (hl : lower c = some (.cond o x y)) : ∃ a b, c = .cond o a b ∧ lower a = some x ∧ lower b = some y := by
  cases c <;> simp only [lower, reduceCtorEq] at hl
  case region => split at hl <;> split at hl <;> cases hl
  case cond o' a b =>
    split at hl
    · rename_i h1 h2; cases hl; exact ⟨a, b, rfl, h1, h2⟩
    · cases hl
  all_goals first | cases hl | (split at hl <;> cases hl)
theorem lower_block {c : Code} {id : Nat} {x : SCode} (hl : lower c = some (.block id x)) : ∃ a, c = .block id a ∧ lower a = some x := by
  cases c <;> simp only [lower, reduceCtorEq] at hl
  case region => split at hl <;> split at hl <;> cases hl
  case block id' a =>
    split at hl
    · rename_i h1; cases hl; exact ⟨a, rfl, h1⟩
    · cases hl
  all_goals first | cases hl | (split at hl <;> cases hl)
theorem lower_loop {c : Code} {x : SCode} (hl : lower c = some (.loop x)) : ∃ a, c = .loop a ∧ lower a = some x := by
  cases c <;> simp only [lower, reduceCtorEq] at hl
  case region => split at hl <;> split at hl <;> cases hl
  case loop a =>
    split at hl
    · rename_i h1; cases hl; exact ⟨a, rfl, h1⟩
    · cases hl
  all_goals first | cases hl | (split at hl <;> cases hl)
theorem lower_ops {c : Code} {l : List SOp} (hl : lower c = some (.ops l)) : ∃ id ops, c = .region id ops false ∧ guardsOk ops = true ∧ prep ops = l := by
  cases c <;> simp only [lower, reduceCtorEq] at hl
  case region id ops d =>
    split at hl
    · split at hl
      · rename_i hg; cases hl; exact ⟨id, ops, rfl, hg, rfl⟩
      · cases hl
    · split at hl <;> cases hl
  all_goals first | cases hl | (split at hl <;> cases hl)
theorem lower_opsD {c : Code} {l : List SOp} {U : List (Nat × Nat)} (hl : lower c = some (.opsD l U)) : ∃ id ops, c = .region id ops true ∧ guardsOk ops = true ∧ regOrd ops U = true ∧ prep ops = l := by
  cases c <;> simp only [lower, reduceCtorEq] at hl
  case region id ops d =>
    split at hl
    · split at hl <;> cases hl
    · split at hl
      · rename_i hg
        simp only [Bool.and_eq_true] at hg
        cases hl; exact ⟨id, ops, rfl, hg.1, hg.2, rfl⟩
      · cases hl
  all_goals first | cases hl | (split at hl <;> cases hl)
theorem lower_skip {c : Code} (hl : lower c = some .skip) : c = .skip := by
  cases c <;> simp only [lower, reduceCtorEq] at hl
  case skip => rfl
  case region => split at hl <;> split at hl <;> cases hl
  all_goals first | cases hl | (split at hl <;> cases hl)
theorem lower_exit {c : Code} {id : Nat} (hl : lower c = some (.exit id)) : c = .exit id := by
  cases c <;> simp only [lower, reduceCtorEq] at hl
  case exit => cases hl; rfl
  case region => split at hl <;> split at hl <;> cases hl
  all_goals first | cases hl | (split at hl <;> cases hl)
theorem lower_ret {c : Code} (hl : lower c = some .ret) : c = .ret := by
  cases c <;> simp only [lower, reduceCtorEq] at hl
  case ret => rfl
  case region => split at hl <;> split at hl <;> cases hl
  all_goals first | cases hl | (split at hl <;> cases hl)

/-! ### The rules -/
def seqS (P : Program) (y : SCode) (K : Exit → List AV → AHeap → Prop) : Exit → List AV → AHeap → Prop
  | .normal, T, h => SWP P y K T h
  | e, T, h => K e T h
theorem seqS_normal {y : SCode} (hy : SWP P y K T h) : seqS P y K .normal T h := hy
theorem seqS_exit {y : SCode} {id : Nat} (hy : K (.exit id) T h) : seqS P y K (.exit id) T h := hy
theorem seqS_ret {y : SCode} (hy : K .ret T h) : seqS P y K .ret T h := hy

theorem swp_skip (hk : K .normal T h) : SWP P .skip K T h := fun _ hl => by rw [lower_skip hl]; exact awp_skip hk
theorem swp_exit {id : Nat} (hk : K (.exit id) T h) : SWP P (.exit id) K T h := fun _ hl => by rw [lower_exit hl]; exact awp_exit hk
theorem swp_ret (hk : K .ret T h) : SWP P .ret K T h := fun _ hl => by rw [lower_ret hl]; exact awp_ret hk
theorem swp_seq {x y : SCode} (hx : SWP P x (seqS P y K) T h) : SWP P (.seq x y) K T h := by
  intro c hl
  obtain ⟨a, b, rfl, h1, h2⟩ := lower_seq hl
  refine awp_seq ((hx a h1).mono ?_)
  intro e T' h' hk
  cases e with
  | normal => exact hk b h2
  | _ => exact hk
theorem swp_block {id : Nat} {x : SCode} (hx : SWP P x (blockK id K) T h) : SWP P (.block id x) K T h := by
  intro c hl
  obtain ⟨a, rfl, h1⟩ := lower_block hl
  exact awp_block (hx a h1)
theorem swp_cond {o : Operand} {x y : SCode} (b : Bool) (hb : ev T o = .c (.bool b)) (h1 : b = true → SWP P x K T h) (h2 : b = false → SWP P y K T h) : SWP P (.cond o x y) K T h := by
  intro c hl
  obtain ⟨a, a', rfl, l1, l2⟩ := lower_cond hl
  exact awp_cond b hb (fun e => h1 e a l1) (fun e => h2 e a' l2)
theorem swp_ops {l : List SOp} (hv : opsV P 0 l T h [] fun T' h' _ => K .normal T' h') : SWP P (.ops l) K T h := by
  intro c hl
  obtain ⟨id, ops, rfl, h1, rfl⟩ := lower_ops hl
  exact awp_region h1 hv
theorem swp_opsD {l : List SOp} {U : List (Nat × Nat)} (hm : P.follows .mixedOrders = true) (hv : opsV P 0 l T h [] fun T' h' F => confV U F ∧ K .normal T' h') : SWP P (.opsD l U) K T h := by
  intro c hl
  obtain ⟨id, ops, rfl, h1, h2, rfl⟩ := lower_opsD hl
  exact awp_regionD U hm h1 h2 hv
theorem swp_forget {x : SCode} {T' : List AV} (hle : TLe T T') (hx : SWP P x K T' h) : SWP P x K T h := fun c hl => awp_forget hle (hx c hl)
theorem swp_mono {x : SCode} {K' : Exit → List AV → AHeap → Prop} (hx : SWP P x K T h) (hk : ∀ e T h, K e T h → K' e T h) : SWP P x K' T h := fun c hl => (hx c hl).mono hk
end

/-- A function in short. -/
structure SFn where
  code : SCode
  results : List ResultVar
  ntmps : Nat

def lowerF (fn : Func) : Option SFn :=
  match fn.body with
  | some c => match lower c with
    | some s => some ⟨s, fn.results.toList, fn.ntmps⟩
    | none => none
  | none => none

def isFn (P : Program) (f : FuncId) : Option SFn :=
  match P.funcs[f]? with
  | some fn => if callable P f then lowerF fn else none
  | none => none

def retS (P : Program) (rs : List ResultVar) (G : Heap) (N : Nat) (val : AV) (writes : List (Nat × Slot)) : Exit → List AV → AHeap → Prop
  | .normal, T, h => ∃ vs σ, resAll P T h rs vs ∧ Final G N h (resOf vs) val writes σ
  | .ret, T, h => ∃ vs σ, resAll P T h rs vs ∧ Final G N h (resOf vs) val writes σ
  | _, _, _ => False

theorem FSpec.of {P : Program} {f : FuncId} {sf : SFn} {args : List AV} {val : AV} {reads : List (Nat × AObj)} {writes : List (Nat × Slot)} (hf : isFn P f = some sf) (hn : args.length ≤ sf.ntmps)
    (H : ∀ (G : Heap) (N : Nat), (∀ k, N ≤ k → G k = .free) → (∀ p ∈ reads, G p.1 = .live p.2 ∧ p.1 < N) → (∀ p ∈ writes, p.1 < N ∧ ((∃ ob, (p.1, ob) ∈ reads) ∨ G p.1 = .free)) →
      SWP P sf.code (retS P sf.results G N val writes) (args ++ List.replicate (sf.ntmps - args.length) .any) ⟨G, N, []⟩) : FSpec P f args val reads writes := by
  unfold isFn at hf
  split at hf
  · rename_i fn hfn
    split at hf
    · rename_i hc
      unfold lowerF at hf
      split at hf
      · rename_i c hb
        split at hf
        · rename_i s hs
          cases hf
          refine FSpec.of_body hfn hb hc hn fun G N h1 h2 h3 => ?_
          refine AWP.mono (H G N h1 h2 h3 c hs) fun e T h hk => ?_
          cases e <;> exact hk
        · cases hf
      · cases hf
    · cases hf
  · cases hf
end Go.Abs



/- The conditions, step by step: rules by which simp works a region's condition out. -/
namespace Go.Abs
open Go.RowKit (Below)
universe u

/-- What simp does not look into: a continuation. -/
inductive Fix {α : Sort u} : α → Type u
  | mk (a : α) : Fix a

def withTy (P : Program) (t : TypeId) {F : TyI → Prop} (_ : Fix F) : Prop := ∃ ti, tyOf P t = some ti ∧ F ti
def withPtr (v : AV) {F : Nat → Nat → Prop} (_ : Fix F) : Prop := ∃ k off, v = .c (.ptr k off) ∧ F k off
def withSlot (s : Slot) {F : AObj → Prop} (_ : Fix F) : Prop := ∃ ob, s = .live ob ∧ F ob
def withCells (v : AV) {F : List Cell → Prop} (_ : Fix F) : Prop := ∃ cs, v.cells = some cs ∧ F cs
def withCell (cs : List Cell) (off : Nat) {F : Cell → Prop} (_ : Fix F) : Prop := ∃ c, cs[off]? = some c ∧ F c
def withBool (v : AV) {F : Bool → Prop} (_ : Fix F) : Prop := ∃ b, v = .c (.bool b) ∧ F b
def withInt (v : AV) {F : IntKind → Int → Prop} (_ : Fix F) : Prop := ∃ k n, v = .c (.int k n) ∧ F k n
def withAgg (v : AV) {F : List Cell → Prop} (_ : Fix F) : Prop := ∃ cs, v = .agg cs ∧ F cs
def withTup (v : AV) {F : List AV → Prop} (_ : Fix F) : Prop := ∃ vs, v = .tup vs ∧ F vs
def withFn (v : AV) {F : FuncId → List (Nat × Nat) → Prop} (_ : Fix F) : Prop := ∃ f ps, v = .c (.fn f ps) ∧ F f ps
def withO {α : Type} (o : Option α) {F : α → Prop} (_ : Fix F) : Prop := ∃ x, o = some x ∧ F x
def must (p : Prop) {X : Prop} (_ : Fix X) : Prop := p ∧ X
def onB (b want : Bool) {X Y : Prop} (_ : Fix X) (_ : Fix Y) : Prop := (b = want → X) ∧ (b = (!want) → Y)
/-- A guard: a truth value, or nothing where its own operation was passed over. -/
def vGuard (v : AV) (want : Bool) {X Y Z : Prop} (_ : Fix X) (_ : Fix Y) (_ : Fix Z) : Prop := (∃ b, v = .c (.bool b) ∧ (b = want → X) ∧ (b = (!want) → Y)) ∨ (v = .tup [] ∧ Z)
def ifB (b : Bool) {X Y : Prop} (_ : Fix X) (_ : Fix Y) : Prop := if b then X else Y
def wr (k : IntKind) (n : Int) : Int := k.wrap n
def asSlice (k : TyK) {F : Nat → Nat → List Cell → Prop} (_ : Fix F) : Prop := ∃ es eb ez, k = .slice es eb ez ∧ F es eb ez
def asInt (k : TyK) {F : IntKind → Prop} (_ : Fix F) : Prop := ∃ ik, k = .int ik ∧ F ik
def asStruct (k : TyK) {F : List (Nat × Nat) → Prop} (_ : Fix F) : Prop := ∃ fs, k = .struct fs ∧ F fs
def asArr (k : TyK) {F : Nat → Nat → Bool → Prop} (_ : Fix F) : Prop := ∃ n es ea, k = .array n es ea ∧ F n es ea

def vOps (P : Program) (i : Nat) {l : List SOp} (_ : Fix l) (T : List AV) (h : AHeap) (F : Foot) {K : List AV → AHeap → Foot → Prop} (_ : Fix K) : Prop := opsV P i l T h F K
def vOp (P : Program) {op : Op} (_ : Fix op) (ρ : Operand → AV) (h : AHeap) {K : Kont} (_ : Fix K) : Prop := opE P op ρ h K
def vFill (place : Nat → Option (Nat × Nat)) (cells : List Cell) (l : List (Nat × AV)) {F : List Cell → Prop} (_ : Fix F) : Prop := ∃ cs, fillC place cells l = some cs ∧ F cs
@[go_sem] theorem vFill_nil {place : Nat → Option (Nat × Nat)} {cells : List Cell} {F : List Cell → Prop} : vFill place cells [] (.mk F) = F cells := by simp [vFill, fillC]
@[go_sem] theorem vFill_cons {place : Nat → Option (Nat × Nat)} {cells : List Cell} {i : Nat} {v : AV} {rest : List (Nat × AV)} {F : List Cell → Prop} :
    vFill place cells ((i, v) :: rest) (.mk F) = withO (place i) (.mk fun q => withCells v (.mk fun vs => must (vs.length = q.2 ∧ q.1 + vs.length ≤ cells.length) (.mk (vFill place (splice cells q.1 vs) rest (.mk F))))) := by
  apply propext
  simp only [vFill, fillC, withO, withCells, must]
  constructor
  · rintro ⟨cs, h1, h2⟩
    split at h1
    · rename_i off size vs hp hv
      split at h1
      · rename_i hc; exact ⟨(off, size), hp, vs, hv, hc, cs, h1, h2⟩
      · cases h1
    · cases h1
  · rintro ⟨⟨off, size⟩, hp, vs, hv, hc, cs, h1, h2⟩
    refine ⟨cs, ?_, h2⟩
    rw [hp, hv]
    simp only
    rw [if_pos hc]; exact h1
def vBin (P : Program) (op : BinOp) (t : TypeId) (a b : AV) {K : AV → Prop} (_ : Fix K) : Prop := binE P op t a b K
def vCall (P : Program) (f : FuncId) (args : List AV) (h : AHeap) {K : Kont} (_ : Fix K) : Prop := callE P f args h K
def vAppend (P : Program) (t tx : TypeId) (s x : AV) (h : AHeap) {K : Kont} (_ : Fix K) : Prop := appendE P t tx s x h K
def vSlice (P : Program) (t : TypeId) (x : AV) (lo hi mx : Option AV) (h : AHeap) {K : Kont} (_ : Fix K) : Prop := sliceE P t x lo hi mx h K

@[go_sem] theorem withPtr_eq {k off : Nat} {F : Nat → Nat → Prop} : withPtr (.c (.ptr k off)) (.mk F) = F k off := by
  apply propext; constructor
  · rintro ⟨_, _, h, h'⟩; cases h; exact h'
  · exact fun h => ⟨_, _, rfl, h⟩
@[go_sem] theorem withSlot_eq {ob : AObj} {F : AObj → Prop} : withSlot (.live ob) (.mk F) = F ob := by simp [withSlot]
@[go_sem] theorem withCells_c {c : Cell} {F : List Cell → Prop} : withCells (.c c) (.mk F) = F [c] := by simp [withCells, AV.cells]
@[go_sem] theorem withCells_agg {cs : List Cell} {F : List Cell → Prop} : withCells (.agg cs) (.mk F) = F cs := by simp [withCells, AV.cells]
@[go_sem] theorem withCell_zero {c : Cell} {cs : List Cell} {F : Cell → Prop} : withCell (c :: cs) 0 (.mk F) = F c := by simp [withCell]
@[go_sem] theorem withCell_succ {c : Cell} {cs : List Cell} {n : Nat} {F : Cell → Prop} : withCell (c :: cs) (n + 1) (.mk F) = withCell cs n (.mk F) := by simp [withCell]
theorem withCell_eq {cs : List Cell} {n : Nat} {F : Cell → Prop} {c : Cell} (h : cs[n]? = some c) : withCell cs n (.mk F) = F c := by simp [withCell, h]
@[go_sem] theorem vGuard_bool {b want : Bool} {X Y Z : Prop} : vGuard (.c (.bool b)) want (.mk X) (.mk Y) (.mk Z) = onB b want (.mk X) (.mk Y) := by simp [vGuard, onB]
@[go_sem] theorem vGuard_none {want : Bool} {X Y Z : Prop} : vGuard (.tup []) want (.mk X) (.mk Y) (.mk Z) = Z := by simp [vGuard]
@[go_sem] theorem withBool_eq {b : Bool} {F : Bool → Prop} : withBool (.c (.bool b)) (.mk F) = F b := by simp [withBool]
@[go_sem] theorem withInt_eq {k : IntKind} {n : Int} {F : IntKind → Int → Prop} : withInt (.c (.int k n)) (.mk F) = F k n := by
  apply propext; constructor
  · rintro ⟨_, _, h, h'⟩; cases h; exact h'
  · exact fun h => ⟨_, _, rfl, h⟩
@[go_sem] theorem withAgg_eq {cs : List Cell} {F : List Cell → Prop} : withAgg (.agg cs) (.mk F) = F cs := by simp [withAgg]
@[go_sem] theorem withTup_eq {vs : List AV} {F : List AV → Prop} : withTup (.tup vs) (.mk F) = F vs := by simp [withTup]
@[go_sem] theorem withFn_eq {f : FuncId} {ps : List (Nat × Nat)} {F : FuncId → List (Nat × Nat) → Prop} : withFn (.c (.fn f ps)) (.mk F) = F f ps := by
  apply propext; constructor
  · rintro ⟨_, _, h, h'⟩; cases h; exact h'
  · exact fun h => ⟨_, _, rfl, h⟩
@[go_sem] theorem withO_eq {α : Type} {x : α} {F : α → Prop} : withO (some x) (.mk F) = F x := by simp [withO]
theorem withTy_eq {P : Program} {t : TypeId} {ti : TyI} (h : tyOf P t = some ti) (F : TyI → Prop) : withTy P t (.mk F) = F ti := by simp [withTy, h]
@[go_sem] theorem must_true {X : Prop} : must True (.mk X) = X := by simp [must]
@[go_sem] theorem must_of {p X : Prop} (h : p) : must p (.mk X) = X := by simp [must, h]
@[go_sem] theorem onB_tt {X Y : Prop} : onB true true (.mk X) (.mk Y) = X := by simp [onB]
@[go_sem] theorem onB_tf {X Y : Prop} : onB true false (.mk X) (.mk Y) = Y := by simp [onB]
@[go_sem] theorem onB_ft {X Y : Prop} : onB false true (.mk X) (.mk Y) = Y := by simp [onB]
@[go_sem] theorem onB_ff {X Y : Prop} : onB false false (.mk X) (.mk Y) = X := by simp [onB]
@[go_sem] theorem ifB_t {X Y : Prop} : ifB true (.mk X) (.mk Y) = X := by simp [ifB]
@[go_sem] theorem ifB_f {X Y : Prop} : ifB false (.mk X) (.mk Y) = Y := by simp [ifB]
theorem onB_intro {b want : Bool} {X Y : Prop} (h1 : b = want → X) (h2 : b = (!want) → Y) : onB b want (.mk X) (.mk Y) := ⟨h1, h2⟩
theorem must_intro {p X : Prop} (h1 : p) (h2 : X) : must p (.mk X) := ⟨h1, h2⟩
@[go_sem] theorem asSlice_eq {es eb : Nat} {ez : List Cell} {F : Nat → Nat → List Cell → Prop} : asSlice (.slice es eb ez) (.mk F) = F es eb ez := by
  apply propext; constructor
  · rintro ⟨_, _, _, h, h'⟩; cases h; exact h'
  · exact fun h => ⟨_, _, _, rfl, h⟩
@[go_sem] theorem asInt_eq {ik : IntKind} {F : IntKind → Prop} : asInt (.int ik) (.mk F) = F ik := by simp [asInt]
@[go_sem] theorem asStruct_eq {fs : List (Nat × Nat)} {F : List (Nat × Nat) → Prop} : asStruct (.struct fs) (.mk F) = F fs := by simp [asStruct]
@[go_sem] theorem asArr_eq {n es : Nat} {ea : Bool} {F : Nat → Nat → Bool → Prop} : asArr (.array n es ea) (.mk F) = F n es ea := by
  apply propext; constructor
  · rintro ⟨_, _, _, h, h'⟩; cases h; exact h'
  · exact fun h => ⟨_, _, _, rfl, h⟩

@[go_sem] theorem wr_i64 {n : Int} (h1 : -9223372036854775808 ≤ n) (h2 : n ≤ 9223372036854775807) : wr .i64 n = n := IntWalk.i64_in n ⟨h1, h2⟩
@[go_sem] theorem wr_u8 {n : Int} (h1 : 0 ≤ n) (h2 : n ≤ 255) : wr .u8 n = n := IntWalk.u8_in n ⟨h1, h2⟩

/-! ### Slots, heap -/
@[go_sem] theorem rd_zero {a : AV} {l : List AV} : rd (a :: l) 0 = a := rfl
@[go_sem] theorem rd_succ {a : AV} {l : List AV} {n : Nat} : rd (a :: l) (n + 1) = rd l n := rfl
attribute [go_sem] List.set_cons_zero List.set_cons_succ List.cons_append List.nil_append List.append_nil List.length_cons List.length_nil List.map_cons List.map_nil List.foldl_cons List.foldl_nil
@[go_sem] theorem ev_tmp {T : List AV} {t : Tmp} : ev T (.tmp t) = rd T t := rfl
@[go_sem] theorem ev_int {T : List AV} {k : IntKind} {n : Int} : ev T (.const (.int k n)) = .c (.int k n) := rfl
@[go_sem] theorem ev_bool {T : List AV} {b : Bool} : ev T (.const (.bool b)) = .c (.bool b) := rfl
@[go_sem] theorem ev_string {T : List AV} {b : ByteArray} : ev T (.const (.string b)) = .c (.str b) := rfl
@[go_sem] theorem ev_nils {T : List AV} : ev T (.const (.slice none 0 0)) = .c .nils := rfl
@[go_sem] theorem ev_nilf {T : List AV} : ev T (.const .nilFunc) = .c .nilf := rfl
@[go_sem] theorem ev_func {T : List AV} {f : FuncId} : ev T (.func f) = .c (.fn f []) := rfl
@[go_sem] theorem setT_some {T : List AV} {d : Tmp} {v : AV} : setT T (some d) v = T.set d v := rfl
@[go_sem] theorem setT_none {T : List AV} {v : AV} : setT T none v = T := rfl

def gd : List Slot → Nat → Slot
  | [], _ => .free
  | s :: _, 0 => s
  | _ :: l, n + 1 => gd l n
theorem gd_eq : ∀ (l : List Slot) (n : Nat), gd l n = l.getD n .free
  | [], _ => rfl
  | _ :: _, 0 => rfl
  | _ :: l, n + 1 => by simpa [gd] using gd_eq l n
attribute [go_sem] gd setAt
@[go_sem] theorem get_new {A : Heap} {N : Nat} {L : List Slot} {i : Nat} : (⟨A, N, L⟩ : AHeap).get (nid N i) = gd L i := by
  have h1 : ¬ nid N i < N := by unfold nid; omega
  have h2 : nid N i - N = i := by unfold nid; omega
  simp only [AHeap.get, h1, if_false, h2, gd_eq]
@[go_sem] theorem get_old {A : Heap} {N : Nat} {L : List Slot} {k : Nat} (h : k < N) : (⟨A, N, L⟩ : AHeap).get k = A k := by
  simp [AHeap.get, h]
@[go_sem] theorem put_new {A : Heap} {N : Nat} {L : List Slot} {i : Nat} {s : Slot} : (⟨A, N, L⟩ : AHeap).put (nid N i) s = ⟨A, N, setAt L i s⟩ := by
  have h1 : ¬ nid N i < N := by unfold nid; omega
  have h2 : nid N i - N = i := by unfold nid; omega
  simp only [AHeap.put, h1, if_false, h2]
@[go_sem] theorem put_old {A : Heap} {N : Nat} {L : List Slot} {k : Nat} {s : Slot} (h : k < N) : (⟨A, N, L⟩ : AHeap).put k s = ⟨upd A k s, N, L⟩ := by
  simp [AHeap.put, h]
@[go_sem] theorem puts_nil {h : AHeap} : h.puts [] = h := rfl
@[go_sem] theorem puts_cons {h : AHeap} {p : Nat × Slot} {l : List (Nat × Slot)} : h.puts (p :: l) = (h.put p.1 p.2).puts l := rfl
@[go_sem] theorem nxt_eq {A : Heap} {N : Nat} {L : List Slot} : (⟨A, N, L⟩ : AHeap).nxt = nid N L.length := rfl

@[go_sem] theorem consF_nil {i : Nat} {F : Foot} : consF i [] [] F = F := rfl
@[go_sem] theorem consF_r {i : Nat} {r : Nat × AObj} {rs : List (Nat × AObj)} {ws : List (Nat × Slot)} {F : Foot} : consF i (r :: rs) ws F = (i, r.1 :: rs.map (·.1), ws.map (·.1)) :: F := rfl
@[go_sem] theorem consF_w {i : Nat} {w : Nat × Slot} {ws : List (Nat × Slot)} {F : Foot} : consF i [] (w :: ws) F = (i, [], w.1 :: ws.map (·.1)) :: F := rfl

/-! ### The list of operations -/
section
variable {P : Program} {i : Nat} {T : List AV} {h : AHeap} {F : Foot} {K : List AV → AHeap → Foot → Prop}
@[go_sem] theorem vOps_nil : vOps P i (.mk []) T h F (.mk K) = K T h F := propext Iff.rfl
@[go_sem] theorem vOps_none {d : Option Tmp} {op : Op} {rest : List SOp} :
    vOps P i (.mk (⟨d, op, none⟩ :: rest)) T h F (.mk K) = vOp P (.mk op) (ev T) h (.mk fun v rs ws => vOps P (i + 1) (.mk rest) (setT T d v) (h.puts ws) (consF i rs ws F) (.mk K)) := propext Iff.rfl
@[go_sem] theorem vOps_some {d : Option Tmp} {op : Op} {g : Tmp} {want : Bool} {rest : List SOp} :
    vOps P i (.mk (⟨d, op, some (g, want)⟩ :: rest)) T h F (.mk K) = vGuard (rd T g) want
      (.mk (vOp P (.mk op) (ev (T.set g (.c (.bool want)))) h (.mk fun v rs ws => vOps P (i + 1) (.mk rest) (setT (T.set g (.c (.bool want))) d v) (h.puts ws) (consF i rs ws F) (.mk K))))
      (.mk (vOps P (i + 1) (.mk rest) (setT (T.set g (.c (.bool !want))) d (.tup [])) h F (.mk K)))
      (.mk (vOps P (i + 1) (.mk rest) (setT T d (.tup [])) h F (.mk K))) := propext Iff.rfl
end

/-! ### Each operation -/
section
variable {P : Program} {ρ : Operand → AV} {h : AHeap} {K : Kont}
@[go_sem] theorem opE_move {x : Operand} : vOp P (.mk (.move x)) ρ h (.mk K) = K (ρ x) [] [] := propext Iff.rfl
@[go_sem] theorem opE_assign {x : Operand} : vOp P (.mk (.assign x)) ρ h (.mk K) = K (ρ x) [] [] := propext Iff.rfl
@[go_sem] theorem opE_pick {c a b : Operand} : vOp P (.mk (.pick c a b)) ρ h (.mk K) = withBool (ρ c) (.mk fun t => onB t true (.mk (K (ρ a) [] [])) (.mk (K (ρ b) [] []))) := propext Iff.rfl
@[go_sem] theorem opE_alloc {e : TypeId} : vOp P (.mk (.alloc e)) ρ h (.mk K) = withTy P e (.mk fun ti => K (.c (.ptr h.nxt 0)) [] [(h.nxt, .live ⟨ti.zero, true⟩)]) := propext Iff.rfl
@[go_sem] theorem opE_box {e : TypeId} {x : Operand} : vOp P (.mk (.box e x)) ρ h (.mk K) = withCells (ρ x) (.mk fun cs => K (.c (.ptr h.nxt 0)) [] [(h.nxt, .live ⟨cs, true⟩)]) := propext Iff.rfl
@[go_sem] theorem opE_build {t : TypeId} {parts : Array (Nat × Operand)} : vOp P (.mk (.build t parts)) ρ h (.mk K) = withTy P t (.mk fun ti => must (isPlace ti.kind = true) (.mk (vFill (placeOf ti.kind) ti.zero (parts.toList.map fun p => (p.1, ρ p.2)) (.mk fun cs => K (.agg cs) [] [])))) := by
  apply propext; constructor
  · rintro ⟨ti, cs, h1, h2, h3, h4⟩; exact ⟨ti, h1, h2, cs, h3, h4⟩
  · rintro ⟨ti, h1, h2, cs, h3, h4⟩; exact ⟨ti, cs, h1, h2, h3, h4⟩
@[go_sem] theorem opE_buildSlice {t : TypeId} {len : Nat} {parts : Array (Nat × Operand)} : vOp P (.mk (.buildSlice t len parts)) ρ h (.mk K) = withTy P t (.mk fun ti => asSlice ti.kind (.mk fun es _ ez => must (ez.length = es) (.mk (must (len * es ≤ 16777216)
      (.mk (vFill (placeOf (.array len es true)) (List.replicate len ez).flatten (parts.toList.map fun p => (p.1, ρ p.2)) (.mk fun cs => K (.c (.slice h.nxt 0 len es)) [] [(h.nxt, .live ⟨cs, true⟩)]))))))) := by
  apply propext; constructor
  · rintro ⟨ti, es, eb, ez, cs, h1, h2, h3, h4, h5, h6⟩; exact ⟨ti, h1, es, eb, ez, h2, h3, h4, cs, h5, h6⟩
  · rintro ⟨ti, h1, es, eb, ez, h2, h3, h4, cs, h5, h6⟩; exact ⟨ti, es, eb, ez, cs, h1, h2, h3, h4, h5, h6⟩
def ldn (cs : List Cell) (off n : Nat) : List Cell := (cs.drop off).take n
@[go_sem] theorem opE_load {t : TypeId} {a : Operand} : vOp P (.mk (.load t a)) ρ h (.mk K) = withTy P t (.mk fun ti => withPtr (ρ a) (.mk fun k off => withSlot (h.get k) (.mk fun ob =>
      ifB ti.agg (.mk (must (off + ti.size ≤ ob.cells.length) (.mk (K (.agg (ldn ob.cells off ti.size)) [(k, ob)] [])))) (.mk (withCell ob.cells off (.mk fun c => K (.c c) [(k, ob)] [])))))) := by
  apply propext; constructor
  · rintro ⟨ti, k, off, ob, h1, h2, h3, h4⟩; exact ⟨ti, h1, k, off, h2, ob, h3, h4⟩
  · rintro ⟨ti, h1, k, off, h2, ob, h3, h4⟩; exact ⟨ti, k, off, ob, h1, h2, h3, h4⟩
@[go_sem] theorem opE_store {t : TypeId} {a x : Operand} : vOp P (.mk (.store t a x)) ρ h (.mk K) = withTy P t (.mk fun ti => withPtr (ρ a) (.mk fun k off => withSlot (h.get k) (.mk fun ob => must (ob.own = true) (.mk (withCells (ρ x) (.mk fun cs =>
      must (cs.length = ti.size) (.mk (must (off + cs.length ≤ ob.cells.length) (.mk (K .any [(k, ob)] [(k, .live ⟨splice ob.cells off cs, true⟩)])))))))))) := by
  apply propext; constructor
  · rintro ⟨ti, k, off, ob, cs, h1, h2, h3, h4, h5, h6, h7, h8⟩; exact ⟨ti, h1, k, off, h2, ob, h3, h4, cs, h5, h6, h7, h8⟩
  · rintro ⟨ti, h1, k, off, h2, ob, h3, h4, cs, h5, h6, h7, h8⟩; exact ⟨ti, k, off, ob, cs, h1, h2, h3, h4, h5, h6, h7, h8⟩
@[go_sem] theorem opE_bin {op : BinOp} {t t' : TypeId} {x y : Operand} : vOp P (.mk (.binOp op t x y t')) ρ h (.mk K) = vBin P op t (ρ x) (ρ y) (.mk fun v => K v [] []) := propext Iff.rfl
@[go_sem] theorem opE_not {t : TypeId} {x : Operand} : vOp P (.mk (.unOp .not t x)) ρ h (.mk K) = withBool (ρ x) (.mk fun b => K (.c (.bool !b)) [] []) := propext Iff.rfl
@[go_sem] theorem opE_neg {t : TypeId} {x : Operand} : vOp P (.mk (.unOp .neg t x)) ρ h (.mk K) = withInt (ρ x) (.mk fun k n => K (.c (.int k (wr k (0 - n)))) [] []) := propext Iff.rfl
@[go_sem] theorem opE_convert {s d : TypeId} {x : Operand} : vOp P (.mk (.convert s d x)) ρ h (.mk K) = withTy P s (.mk fun _ => withTy P d (.mk fun ti => asInt ti.kind (.mk fun k => withInt (ρ x) (.mk fun _ n => K (.c (.int k (wr k n))) [] [])))) := by
  apply propext; constructor
  · rintro ⟨ti, ti', k, k', n, h1, h2, h3, h4, h5⟩; exact ⟨ti', h1, ti, h2, k, h3, k', n, h4, h5⟩
  · rintro ⟨ti', h1, ti, h2, k, h3, k', n, h4, h5⟩; exact ⟨ti, ti', k, k', n, h1, h2, h3, h4, h5⟩
@[go_sem] theorem opE_makeFunc {f : FuncId} {captured : Array Operand} : vOp P (.mk (.makeFunc (.func f) #[] captured)) ρ h (.mk K) = withO (ptrs (captured.toList.map ρ)) (.mk fun ps => K (.c (.fn f ps)) [] []) := by simp [vOp, opE, withO]
@[go_sem] theorem opE_makeSlice {t : TypeId} {l c : Operand} : vOp P (.mk (.makeSlice t l c)) ρ h (.mk K) = withTy P t (.mk fun ti => asSlice ti.kind (.mk fun (es eb : Nat) (ez : List Cell) => must (ez.length = es) (.mk (withInt (ρ l) (.mk fun (_ : IntKind) (m : Int) => withInt (ρ c) (.mk fun (_ : IntKind) (n : Int) =>
      must (0 ≤ m) (.mk (must (m ≤ n) (.mk (must (n * (eb : Int) ≤ 70368744177664) (.mk (must (n ≤ 70368744177664) (.mk (K (.c (.slice h.nxt 0 m.toNat es)) [] [(h.nxt, .live ⟨(List.replicate n.toNat ez).flatten, true⟩)])))))))))))))) := by
  apply propext; constructor
  · rintro ⟨ti, es, eb, ez, kl, kc, m, n, h1, h2, h3, h4, h5, h6, h7, h8, h9, h10⟩; exact ⟨ti, h1, es, eb, ez, h2, h3, kl, m, h4, kc, n, h5, h6, h7, h8, h9, h10⟩
  · rintro ⟨ti, h1, es, eb, ez, h2, h3, kl, m, h4, kc, n, h5, h6, h7, h8, h9, h10⟩; exact ⟨ti, es, eb, ez, kl, kc, m, n, h1, h2, h3, h4, h5, h6, h7, h8, h9, h10⟩
@[go_sem] theorem opE_slice {t : TypeId} {x : Operand} {lo hi mx : Option Operand} : vOp P (.mk (.slice t x lo hi mx)) ρ h (.mk K) = vSlice P t (ρ x) (lo.map ρ) (hi.map ρ) (mx.map ρ) h (.mk K) := propext Iff.rfl
attribute [go_sem] List.getElem?_cons_zero List.getElem?_cons_succ
@[go_sem] theorem opE_fieldAddr {s : TypeId} {x : Operand} {f : Nat} : vOp P (.mk (.fieldAddr s x f)) ρ h (.mk K) = withTy P s (.mk fun ti => asStruct ti.kind (.mk fun fs => withO fs[f]? (.mk fun p => must (p.2 ≠ 0) (.mk (withPtr (ρ x) (.mk fun k off => K (.c (.ptr k (off + p.1))) [] [])))))) := by
  apply propext; constructor
  · rintro ⟨ti, fs, off', sz, k, off, h1, h2, h3, h4, h5, h6⟩; exact ⟨ti, h1, fs, h2, (off', sz), h3, h4, k, off, h5, h6⟩
  · rintro ⟨ti, h1, fs, h2, ⟨off', sz⟩, h3, h4, k, off, h5, h6⟩; exact ⟨ti, fs, off', sz, k, off, h1, h2, h3, h4, h5, h6⟩
def indexE (k : TyK) (v : AV) (i : Int) {K : Kont} (_ : Fix K) : Prop :=
  match k, v with
  | .array n es _, .c (.ptr k off) => 0 ≤ i ∧ i < n ∧ K (.c (.ptr k (off + i.toNat * es))) [] []
  | .slice es _ _, .c (.slice k off len es2) => es2 = es ∧ 0 ≤ i ∧ i < len ∧ K (.c (.ptr k (off + i.toNat * es))) [] []
  | _, _ => False
@[go_sem] theorem indexE_arr {n es k off : Nat} {ea : Bool} {i : Int} : indexE (.array n es ea) (.c (.ptr k off)) i (.mk K) = must (0 ≤ i) (.mk (must (i < n) (.mk (K (.c (.ptr k (off + i.toNat * es))) [] [])))) := propext Iff.rfl
@[go_sem] theorem indexE_sl {es eb k off len : Nat} {ez : List Cell} {i : Int} : indexE (.slice es eb ez) (.c (.slice k off len es)) i (.mk K) = must (0 ≤ i) (.mk (must (i < len) (.mk (K (.c (.ptr k (off + i.toNat * es))) [] [])))) := by simp [indexE, must]
@[go_sem] theorem opE_indexAddr {t : TypeId} {x ix : Operand} : vOp P (.mk (.indexAddr t x ix)) ρ h (.mk K) = withTy P t (.mk fun ti => withInt (ρ ix) (.mk fun _ i => indexE ti.kind (ρ x) i (.mk K))) := by
  apply propext; constructor
  · rintro ⟨ti, ki, i, h1, h2, h3⟩; exact ⟨ti, h1, ki, i, h2, h3⟩
  · rintro ⟨ti, h1, ki, i, h2, h3⟩; exact ⟨ti, ki, i, h1, h2, h3⟩
@[go_sem] theorem opE_index {t : TypeId} {x ix : Operand} : vOp P (.mk (.index t x ix)) ρ h (.mk K) = withTy P t (.mk fun ti => asArr ti.kind (.mk fun (n es : Nat) (ea : Bool) => withAgg (ρ x) (.mk fun (cs : List Cell) => withInt (ρ ix) (.mk fun (_ : IntKind) (i : Int) => must (0 ≤ i) (.mk (must (i < n)
      (.mk (ifB ea (.mk (must (i.toNat * es + es ≤ cs.length) (.mk (K (.agg (ldn cs (i.toNat * es) es)) [] [])))) (.mk (withCell cs (i.toNat * es) (.mk fun c => K (.c c) [] []))))))))))) := by
  apply propext; constructor
  · rintro ⟨ti, ki, i, n, es, ea, cs, h1, h2, h3, h4, h5, h6, h7⟩; exact ⟨ti, h1, n, es, ea, h2, cs, h3, ki, i, h4, h5, h6, h7⟩
  · rintro ⟨ti, h1, n, es, ea, h2, cs, h3, ki, i, h4, h5, h6, h7⟩; exact ⟨ti, ki, i, n, es, ea, cs, h1, h2, h3, h4, h5, h6, h7⟩
@[go_sem] theorem opE_nilCheck {x : Operand} : vOp P (.mk (.nilCheck x)) ρ h (.mk K) = withPtr (ρ x) (.mk fun k off => K (.c (.ptr k off)) [] []) := rfl
@[go_sem] theorem opE_extract {x : Operand} {i : Nat} : vOp P (.mk (.extract x i)) ρ h (.mk K) = withTup (ρ x) (.mk fun vs => withO vs[i]? (.mk fun v => K v [] [])) := by
  apply propext; constructor
  · rintro ⟨vs, v, h1, h2, h3⟩; exact ⟨vs, h1, v, h2, h3⟩
  · rintro ⟨vs, h1, v, h2, h3⟩; exact ⟨vs, v, h1, h2, h3⟩
@[go_sem] theorem opE_call {f : Operand} {args : Array Operand} {ats : Array TypeId} : vOp P (.mk (.call ⟨.value f, args, ats⟩)) ρ h (.mk K) = withFn (ρ f) (.mk fun g caps => vCall P g (args.toList.map ρ ++ caps.map fun p => .c (.ptr p.1 p.2)) h (.mk K)) := propext Iff.rfl
def lenE (k : TyK) (v : AV) {K : Kont} (_ : Fix K) : Prop :=
  match k, v with
  | .slice _ _ _, .c (.slice _ _ len _) => K (.c (.int .i64 len)) [] []
  | .slice _ _ _, .c .nils => K (.c (.int .i64 0)) [] []
  | .array n _ _, _ => K (.c (.int .i64 n)) [] []
  | .str, .c (.str s) => K (.c (.int .i64 s.size)) [] []
  | _, _ => False
@[go_sem] theorem lenE_sl {es eb k off len es2 : Nat} {ez : List Cell} : lenE (.slice es eb ez) (.c (.slice k off len es2)) (.mk K) = K (.c (.int .i64 len)) [] [] := propext Iff.rfl
@[go_sem] theorem lenE_nil {es eb : Nat} {ez : List Cell} : lenE (.slice es eb ez) (.c .nils) (.mk K) = K (.c (.int .i64 0)) [] [] := propext Iff.rfl
@[go_sem] theorem lenE_arr {n es : Nat} {ea : Bool} {v : AV} : lenE (.array n es ea) v (.mk K) = K (.c (.int .i64 n)) [] [] := by cases v <;> rfl
@[go_sem] theorem lenE_str {s : ByteArray} : lenE .str (.c (.str s)) (.mk K) = K (.c (.int .i64 s.size)) [] [] := propext Iff.rfl
@[go_sem] theorem opE_len {x : Operand} {t : TypeId} : vOp P (.mk (.call ⟨.builtin .len, #[x], #[t]⟩)) ρ h (.mk K) = withTy P t (.mk fun ti => lenE ti.kind (ρ x) (.mk K)) := by
  apply propext; constructor
  · rintro ⟨t', x', ti, h1, h2, h3, h4⟩
    simp at h1 h2; subst h1; subst h2
    exact ⟨ti, h3, h4⟩
  · rintro ⟨ti, h3, h4⟩; exact ⟨t, x, ti, rfl, rfl, h3, h4⟩
@[go_sem] theorem opE_append {s x : Operand} {t tx : TypeId} : vOp P (.mk (.call ⟨.builtin .append, #[s, x], #[t, tx]⟩)) ρ h (.mk K) = vAppend P t tx (ρ s) (ρ x) h (.mk K) := by
  apply propext; constructor
  · rintro ⟨t', tx', s', x', h1, h2, h3⟩
    simp at h1 h2; obtain ⟨rfl, rfl⟩ := h1; obtain ⟨rfl, rfl⟩ := h2
    exact h3
  · exact fun h3 => ⟨t, tx, s, x, rfl, rfl, h3⟩
@[go_sem] theorem opE_field {s : TypeId} {x : Operand} {f : Nat} : vOp P (.mk (.field s x f)) ρ h (.mk K) = must (fieldPlain P s f = true) (.mk (withTy P s (.mk fun ti => asStruct ti.kind (.mk fun fs => withO fs[f]? (.mk fun p => withAgg (ρ x) (.mk fun cs => withCell cs p.1 (.mk fun c => K (.c c) [] []))))))) := by
  apply propext; constructor
  · rintro ⟨h0, ti, fs, off', sz, cs, c, h1, h2, h3, h4, h5, h6⟩; exact ⟨h0, ti, h1, fs, h2, (off', sz), h3, cs, h4, c, h5, h6⟩
  · rintro ⟨h0, ti, h1, fs, h2, ⟨off', sz⟩, h3, cs, h4, c, h5, h6⟩; exact ⟨h0, ti, fs, off', sz, cs, c, h1, h2, h3, h4, h5, h6⟩
def clearE (k : TyK) (v : AV) (h : AHeap) {K : Kont} (_ : Fix K) : Prop := ∃ es eb ez kk off len ob, k = .slice es eb ez ∧ ez.length = es ∧ v = .c (.slice kk off len es) ∧ h.get kk = .live ob ∧ ob.own = true ∧ off + len * es ≤ ob.cells.length ∧ K (.tup []) [(kk, ob)] [(kk, .live ⟨splice ob.cells off (List.replicate len ez).flatten, true⟩)]
@[go_sem] theorem clearE_sl {es eb kk off len : Nat} {ez : List Cell} : clearE (.slice es eb ez) (.c (.slice kk off len es)) h (.mk K) = must (ez.length = es) (.mk (withSlot (h.get kk) (.mk fun ob => must (ob.own = true) (.mk (must (off + len * es ≤ ob.cells.length) (.mk (K (.tup []) [(kk, ob)] [(kk, .live ⟨splice ob.cells off (List.replicate len ez).flatten, true⟩)]))))))) := by
  apply propext; constructor
  · rintro ⟨es', eb', ez', kk', off', len', ob, h1, h2, h3, h4, h5, h6, h7⟩; cases h1; cases h3; exact ⟨h2, ob, h4, h5, h6, h7⟩
  · rintro ⟨h2, ob, h4, h5, h6, h7⟩; exact ⟨es, eb, ez, kk, off, len, ob, rfl, h2, rfl, h4, h5, h6, h7⟩
@[go_sem] theorem opE_clear {x : Operand} {t : TypeId} : vOp P (.mk (.call ⟨.builtin .clear, #[x], #[t]⟩)) ρ h (.mk K) = withTy P t (.mk fun ti => clearE ti.kind (ρ x) h (.mk K)) := by
  apply propext; constructor
  · rintro ⟨t', x', ti, es, eb, ez, k, off, len, ob, h1, h2, h3, h4, h5, h6, h7, h8, h9, h10⟩
    cases h1; cases h2
    exact ⟨ti, h3, es, eb, ez, k, off, len, ob, h4, h5, h6, h7, h8, h9, h10⟩
  · rintro ⟨ti, h3, es, eb, ez, k, off, len, ob, h4, h5, h6, h7, h8, h9, h10⟩
    exact ⟨t, x, ti, es, eb, ez, k, off, len, ob, rfl, rfl, h3, h4, h5, h6, h7, h8, h9, h10⟩
@[go_sem] theorem opE_max {x y : Operand} {ts : Array TypeId} : vOp P (.mk (.call ⟨.builtin .max, #[x, y], ts⟩)) ρ h (.mk K) = withInt (ρ x) (.mk fun k m => withInt (ρ y) (.mk fun k' n => must (k' = k) (.mk (K (.c (.int k (if n > m then n else m))) [] [])))) := by
  apply propext; constructor
  · rintro (⟨x', y', k, m, n, h1, h2, h3, h4⟩ | ⟨x', y', z', k, m, n, r, h1, _⟩)
    · simp at h1; obtain ⟨rfl, rfl⟩ := h1
      exact ⟨k, m, h2, k, n, h3, rfl, h4⟩
    · simp at h1
  · rintro ⟨k, m, h2, k', n, h3, rfl, h4⟩; exact .inl ⟨x, y, _, m, n, rfl, h2, h3, h4⟩
@[go_sem] theorem opE_max3 {x y z : Operand} {ts : Array TypeId} : vOp P (.mk (.call ⟨.builtin .max, #[x, y, z], ts⟩)) ρ h (.mk K) = withInt (ρ x) (.mk fun k m => withInt (ρ y) (.mk fun k' n => must (k' = k) (.mk (withInt (ρ z) (.mk fun k'' r => must (k'' = k) (.mk (K (.c (.int k (if r > (if n > m then n else m) then r else if n > m then n else m))) [] []))))))) := by
  apply propext; constructor
  · rintro (⟨x', y', k, m, n, h1, _⟩ | ⟨x', y', z', k, m, n, r, h1, h2, h3, h4, h5⟩)
    · simp at h1
    · simp at h1; obtain ⟨rfl, rfl, rfl⟩ := h1
      exact ⟨k, m, h2, k, n, h3, rfl, k, r, h4, rfl, h5⟩
  · rintro ⟨k, m, h2, k', n, h3, rfl, k'', r, h4, rfl, h5⟩; exact .inr ⟨x, y, z, _, m, n, r, rfl, h2, h3, h4, h5⟩
@[go_sem] theorem opE_min {x y : Operand} {ts : Array TypeId} : vOp P (.mk (.call ⟨.builtin .min, #[x, y], ts⟩)) ρ h (.mk K) = withInt (ρ x) (.mk fun k m => withInt (ρ y) (.mk fun k' n => must (k' = k) (.mk (K (.c (.int k (if n < m then n else m))) [] [])))) := by
  apply propext; constructor
  · rintro ⟨x', y', k, m, n, h1, h2, h3, h4⟩
    simp at h1; obtain ⟨rfl, rfl⟩ := h1
    exact ⟨k, m, h2, k, n, h3, rfl, h4⟩
  · rintro ⟨k, m, h2, k', n, h3, rfl, h4⟩; exact ⟨x, y, _, m, n, rfl, h2, h3, h4⟩
@[go_sem] theorem appendE_sl {t tx : TypeId} {k off len es k2 off2 m es2 : Nat} : vAppend P t tx (.c (.slice k off len es)) (.c (.slice k2 off2 m es2)) h (.mk K) =
    withTy P t (.mk fun ti => asSlice ti.kind (.mk fun es' eb ez => withTy P tx (.mk fun tj => asSlice tj.kind (.mk fun _ _ _ => must (ez.length = es' ∧ es = es') (.mk (withSlot (h.get k2) (.mk fun ob2 => must (off2 + m * es' ≤ ob2.cells.length)
      (.mk (must ((len + m) * eb ≤ 70368744177664) (.mk (must (len + m ≤ 70368744177664) (.mk (withSlot (h.get k) (.mk fun ob => must (ob.own = true ∧ off + len * es' ≤ ob.cells.length)
        (.mk (K (.c (.slice h.nxt 0 (len + m) es')) [(k, ob), (k2, ob2)] [(k, .dead), (h.nxt, .live ⟨ldn ob.cells off (len * es') ++ ldn ob2.cells off2 (m * es'), true⟩)])))))))))))))))) := by
  apply propext; constructor
  · rintro ⟨ti, es1, eb, ez, ti', es1', eb', ez', h1, h2, h3, h4, h5, ob2, h6, h7, h8, h9, h10, ob, h11, h12, h13, h14⟩
    exact ⟨ti, h1, es1, eb, ez, h2, ti', h3, es1', eb', ez', h4, ⟨h5, h8⟩, ob2, h6, h7, h9, h10, ob, h11, ⟨h12, h13⟩, h14⟩
  · rintro ⟨ti, h1, es1, eb, ez, h2, ti', h3, es1', eb', ez', h4, ⟨h5, h8⟩, ob2, h6, h7, h9, h10, ob, h11, ⟨h12, h13⟩, h14⟩
    exact ⟨ti, es1, eb, ez, ti', es1', eb', ez', h1, h2, h3, h4, h5, ob2, h6, h7, h8, h9, h10, ob, h11, h12, h13, h14⟩
@[go_sem] theorem appendE_nil {t tx : TypeId} {k2 off2 m es2 : Nat} : vAppend P t tx (.c .nils) (.c (.slice k2 off2 m es2)) h (.mk K) =
    withTy P t (.mk fun ti => asSlice ti.kind (.mk fun es' eb ez => withTy P tx (.mk fun tj => asSlice tj.kind (.mk fun _ _ _ => must (ez.length = es') (.mk (withSlot (h.get k2) (.mk fun ob2 => must (off2 + m * es' ≤ ob2.cells.length)
      (.mk (must (m * eb ≤ 70368744177664) (.mk (must (m ≤ 70368744177664) (.mk (K (.c (.slice h.nxt 0 m es')) [(k2, ob2)] [(h.nxt, .live ⟨ldn ob2.cells off2 (m * es'), true⟩)]))))))))))))) := by
  apply propext; constructor
  · rintro ⟨ti, es1, eb, ez, ti', es1', eb', ez', h1, h2, h3, h4, h5, ob2, h6, h7, h9, h10, h14⟩
    exact ⟨ti, h1, es1, eb, ez, h2, ti', h3, es1', eb', ez', h4, h5, ob2, h6, h7, h9, h10, h14⟩
  · rintro ⟨ti, h1, es1, eb, ez, h2, ti', h3, es1', eb', ez', h4, h5, ob2, h6, h7, h9, h10, h14⟩
    exact ⟨ti, es1, eb, ez, ti', es1', eb', ez', h1, h2, h3, h4, h5, ob2, h6, h7, h9, h10, h14⟩

/-! numbers -/
section
variable {t : TypeId} {k k' : IntKind} {m n : Int} {K : AV → Prop}
@[go_sem] theorem binE_add : vBin P .add t (.c (.int k m)) (.c (.int k n)) (.mk K) = K (.c (.int k (wr k (m + n)))) := by simp [vBin, binE, wr]
@[go_sem] theorem binE_sub : vBin P .sub t (.c (.int k m)) (.c (.int k n)) (.mk K) = K (.c (.int k (wr k (m - n)))) := by simp [vBin, binE, wr]
@[go_sem] theorem binE_mul : vBin P .mul t (.c (.int k m)) (.c (.int k n)) (.mk K) = K (.c (.int k (wr k (m * n)))) := by simp [vBin, binE, wr]
@[go_sem] theorem binE_quo : vBin P .quo t (.c (.int k m)) (.c (.int k n)) (.mk K) = must (n ≠ 0) (.mk (K (.c (.int k (wr k (m.tdiv n)))))) := by simp [vBin, binE, wr, must]
@[go_sem] theorem binE_rem : vBin P .rem t (.c (.int k m)) (.c (.int k n)) (.mk K) = must (n ≠ 0) (.mk (K (.c (.int k (m.tmod n))))) := by simp [vBin, binE, must]
@[go_sem] theorem binE_eql : vBin P .eql t (.c (.int k m)) (.c (.int k n)) (.mk K) = K (.c (.bool (m == n))) := by simp [vBin, binE]
@[go_sem] theorem binE_neq : vBin P .neq t (.c (.int k m)) (.c (.int k n)) (.mk K) = K (.c (.bool (m != n))) := by simp [vBin, binE]
@[go_sem] theorem binE_lss : vBin P .lss t (.c (.int k m)) (.c (.int k n)) (.mk K) = K (.c (.bool (decide (m < n)))) := by simp [vBin, binE]
@[go_sem] theorem binE_leq : vBin P .leq t (.c (.int k m)) (.c (.int k n)) (.mk K) = K (.c (.bool (decide (m ≤ n)))) := by simp [vBin, binE]
@[go_sem] theorem binE_gtr : vBin P .gtr t (.c (.int k m)) (.c (.int k n)) (.mk K) = K (.c (.bool (decide (n < m)))) := by simp [vBin, binE]
@[go_sem] theorem binE_geq : vBin P .geq t (.c (.int k m)) (.c (.int k n)) (.mk K) = K (.c (.bool (decide (n ≤ m)))) := by simp [vBin, binE]
@[go_sem] theorem binE_shl : vBin P .shl t (.c (.int k m)) (.c (.int k' n)) (.mk K) = must (0 ≤ n) (.mk (K (.c (.int k (wr k (m * 2 ^ (min n.toNat k.bits))))))) := by simp [vBin, binE, wr, must]
@[go_sem] theorem binE_shr : vBin P .shr t (.c (.int k m)) (.c (.int k' n)) (.mk K) = must (0 ≤ n) (.mk (K (.c (.int k (m.fdiv (2 ^ (min n.toNat k.bits))))))) := by simp [vBin, binE, must]
@[go_sem] theorem binE_and : vBin P .and t (.c (.int k m)) (.c (.int k n)) (.mk K) = K (.c (.int k (wr k (BitVec.ofInt k.bits m &&& BitVec.ofInt k.bits n).toNat))) := by simp [vBin, binE, wr]
@[go_sem] theorem binE_eqlB {x y : Bool} : vBin P .eql t (.c (.bool x)) (.c (.bool y)) (.mk K) = must (P.underlying t = some .bool) (.mk (K (.c (.bool (x == y))))) := propext Iff.rfl
@[go_sem] theorem binE_neqB {x y : Bool} : vBin P .neq t (.c (.bool x)) (.c (.bool y)) (.mk K) = must (P.underlying t = some .bool) (.mk (K (.c (.bool (x != y))))) := propext Iff.rfl
@[go_sem] theorem binE_eqlA {xs ys : List Cell} : vBin P .eql t (.agg xs) (.agg ys) (.mk K) = must (eqArr P t = true) (.mk (must ((P.info? t).map (·.size) = some xs.length) (.mk (must (sameInts xs ys = true) (.mk (K (.c (.bool (intsEq xs ys))))))))) := propext Iff.rfl
@[go_sem] theorem binE_neqA {xs ys : List Cell} : vBin P .neq t (.agg xs) (.agg ys) (.mk K) = must (eqArr P t = true) (.mk (must ((P.info? t).map (·.size) = some xs.length) (.mk (must (sameInts xs ys = true) (.mk (K (.c (.bool !intsEq xs ys)))))))) := propext Iff.rfl
end
end

/-! ### Regions, worked out -/
theorem run_ops {P : Program} {l : List SOp} {T : List AV} {h : AHeap} {K : Exit → List AV → AHeap → Prop} (hv : vOps P 0 (.mk l) T h [] (.mk fun T' h' _ => K .normal T' h')) : SWP P (.ops l) K T h := swp_ops hv
theorem run_opsD {P : Program} {l : List SOp} {U : List (Nat × Nat)} {T : List AV} {h : AHeap} {K : Exit → List AV → AHeap → Prop} (hm : P.follows .mixedOrders = true) (hv : vOps P 0 (.mk l) T h [] (.mk fun T' h' F => must (confV U F) (.mk (K .normal T' h')))) : SWP P (.opsD l U) K T h := swp_opsD hm hv
attribute [go_sem] confV apart notIn lk Bool.not_false Bool.not_true
/-! ### Calls, ends -/
theorem call_intro {P : Program} {f : FuncId} {args : List AV} {h : AHeap} {K : Kont} {val : AV} {reads : List (Nat × AObj)} {writes : List (Nat × Slot)} (hs : FSpec P f args val reads writes)
    (h1 : ∀ p ∈ reads, h.get p.1 = .live p.2) (h2 : ∀ p ∈ writes, (∃ ob, (p.1, ob) ∈ reads) ∨ h.get p.1 = .free) (hK : K val reads writes) : vCall P f args h (.mk K) := ⟨val, reads, writes, hs, h1, h2, hK⟩
/-- A call that only computes. -/
theorem call_pure {P : Program} {f : FuncId} {args : List AV} {h : AHeap} {K : Kont} {val : AV} (hs : FSpec P f args val [] []) (hK : K val [] []) : vCall P f args h (.mk K) := ⟨val, [], [], hs, by simp, by simp, hK⟩
attribute [go_sem] List.toList_toArray isPlace placeOf List.flatten_cons List.flatten_nil List.replicate List.take_succ_cons List.take_zero List.drop_succ_cons List.drop_zero List.take_nil List.drop_nil
@[go_sem] theorem splice_nil {cs : List Cell} : splice cs 0 [] = cs := by simp [splice]
@[go_sem] theorem splice_cons {c v : Cell} {cs vs : List Cell} : splice (c :: cs) 0 (v :: vs) = v :: splice cs 0 vs := by simp [splice]
@[go_sem] theorem splice_succ {c : Cell} {cs vs : List Cell} {n : Nat} : splice (c :: cs) (n + 1) vs = c :: splice cs n vs := by
  simp only [splice, List.take_succ_cons, List.cons_append, List.cons.injEq, true_and]
  rw [show n + 1 + vs.length = (n + vs.length) + 1 from by omega, List.drop_succ_cons]
@[go_sem] theorem ldn_zero {cs : List Cell} {n : Nat} : ldn cs n 0 = [] := by simp [ldn]
@[go_sem] theorem ldn_cons {c : Cell} {cs : List Cell} {n : Nat} : ldn (c :: cs) 0 (n + 1) = c :: ldn cs 0 n := by simp [ldn]
@[go_sem] theorem ldn_succ {c : Cell} {cs : List Cell} {n m : Nat} : ldn (c :: cs) (n + 1) m = ldn cs n m := by simp [ldn]
end Go.Abs
