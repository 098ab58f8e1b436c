/- Forgetting: what a call or a round has laid for itself alone is dropped, and objects get the names that the caller gives them. -/
import Derived.Test.YtgkknajopejleaaAbsH
namespace Go.Abs
open Go.RowKit (Below)

def Cell.ids : Cell → List Nat
  | .ptr k _ => [k]
  | .slice k _ _ _ => [k]
  | .fn _ caps => caps.map (·.1)
  | _ => []
def Cell.mapIds (σ : Nat → Nat) : Cell → Cell
  | .ptr k off => .ptr (σ k) off
  | .slice k off len es => .slice (σ k) off len es
  | .fn f caps => .fn f (caps.map fun p => (σ p.1, p.2))
  | x => x

/-- What a value comes to under other names. -/
inductive Named (σ : Nat → Nat) (ok : Nat → Prop) : AV → AV → Prop
  | c {x : Cell} : (∀ i ∈ x.ids, ok i) → Named σ ok (.c x) (.c (x.mapIds σ))
  | agg {cs : List Cell} : (∀ x ∈ cs, ∀ i ∈ x.ids, ok i) → Named σ ok (.agg cs) (.agg (cs.map (Cell.mapIds σ)))
  | tup {as bs : List AV} : as.length = bs.length → (∀ (i : Nat) (a b : AV), as[i]? = some a → bs[i]? = some b → Named σ ok a b) → Named σ ok (.tup as) (.tup bs)
  | any {b : AV} : Named σ ok .any b

theorem RepP.name {μ μ'' : LMap} {σ : Nat → Nat} {p : Nat × Nat} {v : Value} (h : RepP μ (σ p.1, p.2) v) (hk : μ'' p.1 = μ (σ p.1)) : RepP μ'' p v := by
  obtain ⟨l, h1, h2⟩ := h
  exact ⟨l, hk.trans h1, h2⟩
theorem RepPs.name {μ μ'' : LMap} {σ : Nat → Nat} : ∀ {ps : List (Nat × Nat)} {vs : List Value}, RepPs μ (ps.map fun p => (σ p.1, p.2)) vs → (∀ i ∈ ps.map (·.1), μ'' i = μ (σ i)) → RepPs μ'' ps vs
  | [], [], _, _ => trivial
  | _ :: _, _ :: _, h, hk => ⟨h.1.name (hk _ (by simp)), RepPs.name h.2 fun i hi => hk i (by simp only [List.map_cons, List.mem_cons]; exact .inr hi)⟩
  | [], _ :: _, h, _ => h.elim
  | _ :: _, [], h, _ => h.elim
theorem RepC.name {μ μ'' : LMap} {σ : Nat → Nat} {c : Cell} {v : Value} (h : RepC μ (c.mapIds σ) v) (hk : ∀ i ∈ c.ids, μ'' i = μ (σ i)) : RepC μ'' c v := by
  cases c <;> simp only [Cell.mapIds, RepC] at h ⊢ <;> try exact h
  case ptr k off => exact RepP.name (p := (k, off)) h (hk k (by simp [Cell.ids]))
  case slice k off len es => obtain ⟨l, p, cap, h1, h2⟩ := h; exact ⟨l, p, cap, (hk k (by simp [Cell.ids])).trans h1, h2⟩
  case fn f caps => obtain ⟨vs, h1, h2⟩ := h; exact ⟨vs, h1, h2.name fun i hi => hk i (by simpa [Cell.ids] using hi)⟩
theorem RepCs.name {μ μ'' : LMap} {σ : Nat → Nat} : ∀ {cs : List Cell} {vs : List Value}, RepCs μ (cs.map (Cell.mapIds σ)) vs → (∀ c ∈ cs, ∀ i ∈ c.ids, μ'' i = μ (σ i)) → RepCs μ'' cs vs
  | [], [], _, _ => trivial
  | _ :: _, _ :: _, h, hk => ⟨h.1.name (hk _ (by simp)), RepCs.name h.2 fun c hc => hk c (by simp [hc])⟩
  | [], _ :: _, h, _ => h.elim
  | _ :: _, [], h, _ => h.elim

theorem RepPs.dom {μ : LMap} : ∀ {ps : List (Nat × Nat)} {vs : List Value}, RepPs μ ps vs → ∀ i ∈ ps.map (·.1), ∃ l, μ i = some l
  | [], _, _, i, hi => by simp at hi
  | p :: ps, v :: vs, h, i, hi => by
    simp only [List.map_cons, List.mem_cons] at hi
    rcases hi with rfl | hi
    · obtain ⟨l, h1, _⟩ := h.1; exact ⟨l, h1⟩
    · exact RepPs.dom h.2 i hi
  | _ :: _, [], h, _, _ => h.elim
theorem RepC.dom {μ : LMap} {c : Cell} {v : Value} (h : RepC μ c v) : ∀ i ∈ c.ids, ∃ l, μ i = some l := by
  intro i hi
  cases c <;> simp [Cell.ids] at hi
  case ptr => obtain ⟨l, h1, _⟩ := h; subst hi; exact ⟨l, h1⟩
  case slice => obtain ⟨l, p, cap, h1, _⟩ := h; subst hi; exact ⟨l, h1⟩
  case fn =>
    obtain ⟨vs, _, h2⟩ := h
    refine h2.dom i ?_
    obtain ⟨x, hx⟩ := hi
    exact List.mem_map.2 ⟨(i, x), hx, rfl⟩
theorem RepCs.dom {μ : LMap} : ∀ {cs : List Cell} {vs : List Value}, RepCs μ cs vs → ∀ c ∈ cs, ∀ i ∈ c.ids, ∃ l, μ i = some l
  | [], _, _, c, hc => by simp at hc
  | c :: cs, v :: vs, h, x, hx => by
    rcases List.mem_cons.1 hx with rfl | hx
    · exact h.1.dom
    · exact RepCs.dom h.2 x hx
  | _ :: _, [], h, _, _ => h.elim

theorem mapIds_ids (σ : Nat → Nat) (c : Cell) : (c.mapIds σ).ids = c.ids.map σ := by
  cases c <;> simp [Cell.mapIds, Cell.ids]

/-- The names of a heap that has been cut down. -/
theorem Rel.restrict {B : Nat} {μ0 μ : LMap} {G0 G G' : Heap} {w0 w : World} (h0 : Rel B μ0 G0 w0) (h : Rel B μ G w) (hle : μ0.le μ) (σ : Nat → Nat)
    (hσ : ∀ k, G0 k ≠ .free → G' k ≠ .free ∧ σ k = k)
    (hobj : ∀ k o, G' k = .live o → (G0 k = .live o ∧ G k = .live o) ∨ (G (σ k) = .live ⟨o.cells.map (Cell.mapIds σ), o.own⟩ ∧ ∀ c ∈ o.cells, ∀ i ∈ c.ids, G (σ i) ≠ .free → G' i ≠ .free))
    (hinj : ∀ k k' o o', G' k = .live o → G' k' = .live o' → o.own = true → o'.own = true → k ≠ k' → σ k ≠ σ k') :
    ∃ μ', μ0.le μ' ∧ Rel B μ' G' w ∧ ∀ x y v, Named σ (fun i => G (σ i) ≠ .free → G' i ≠ .free) x y → RepV μ y v → RepV μ' x v := by
  have hdom : ∀ i l, μ i = some l → G i ≠ .free := fun i l hi hf => by rw [h.free i hf] at hi; cases hi
  have hdom0 : ∀ i l, μ0 i = some l → G0 i ≠ .free := fun i l hi hf => by rw [h0.free i hf] at hi; cases hi
  let μ' : LMap := fun k => match G' k with | .free => none | _ => μ (σ k)
  have hμ' : ∀ k, G' k ≠ .free → μ' k = μ (σ k) := by
    intro k hk
    show (match G' k with | .free => none | _ => μ (σ k)) = μ (σ k)
    cases hg : G' k <;> simp_all
  have hle' : μ0.le μ' := by
    intro k l hk
    have h1 := hσ k (hdom0 k l hk)
    rw [hμ' k h1.1, h1.2]
    exact hle k l hk
  have single : ∀ (c : Cell) v, (∀ i ∈ c.ids, G (σ i) ≠ .free → G' i ≠ .free) → RepC μ (c.mapIds σ) v → RepC μ' c v := by
    intro c v hok hr
    refine hr.name fun i hi => ?_
    obtain ⟨l, hl⟩ := hr.dom (σ i) (by rw [mapIds_ids]; exact List.mem_map_of_mem hi)
    exact hμ' i (hok i hi (hdom _ l hl))
  refine ⟨μ', hle', ⟨fun k hk => ?_, fun k o hk => ?_, fun k k' o o' l l' hk hk' ho ho' hl hl' hr hr' hne => ?_, h.size⟩, ?_⟩
  · show (match G' k with | .free => none | _ => μ (σ k)) = none
    rw [hk]
  · have hnf : G' k ≠ .free := by rw [hk]; simp
    rcases hobj k o hk with ⟨g0, g1⟩ | ⟨g1, g2⟩
    · have hs := hσ k (by rw [g0]; simp)
      obtain ⟨l, hl, hat⟩ := h.obj k o g1
      refine ⟨l, by rw [hμ' k hnf, hs.2]; exact hl, ?_⟩
      obtain ⟨l0, hl0, hat0⟩ := h0.obj k o g0
      have := hle k l0 hl0
      rw [hl] at this; cases this
      unfold ObjAt at hat hat0 ⊢
      split
      · rename_i hr
        simp only [hr, if_true] at hat hat0
        obtain ⟨C, elem, fz, a1, a2, a3, a4⟩ := hat
        obtain ⟨C0, elem0, fz0, b1, b2, b3, b4⟩ := hat0
        refine ⟨C, elem, fz, a1, a2, fun j x hx => ?_, a4⟩
        obtain ⟨v, hv, hrep⟩ := a3 j x hx
        obtain ⟨v0, hv0, hrep0⟩ := b3 j x hx
        refine ⟨v, hv, ?_⟩
        have hx0 := hrep0.dom
        have hmap : x.mapIds σ = x := by
          cases x <;> simp only [Cell.mapIds]
          case ptr k' off => obtain ⟨l, hl⟩ := hx0 k' (by simp [Cell.ids]); rw [(hσ k' (hdom0 _ _ hl)).2]
          case slice k' off len es => obtain ⟨l, hl⟩ := hx0 k' (by simp [Cell.ids]); rw [(hσ k' (hdom0 _ _ hl)).2]
          case fn f caps =>
            congr 1
            rw [List.map_congr_left (g := id)]
            · simp
            · intro p hp
              obtain ⟨l, hl⟩ := hx0 p.1 (by simp only [Cell.ids]; exact List.mem_map_of_mem hp)
              rw [(hσ p.1 (hdom0 _ _ hl)).2]; rfl
        refine single x v (fun i hi _ => ?_) (by rw [hmap]; exact hrep)
        obtain ⟨l, hl⟩ := hx0 i hi
        exact (hσ i (hdom0 _ _ hl)).1
      · rename_i hr
        simpa [hr] using hat
    · obtain ⟨l, hl, hat⟩ := h.obj (σ k) _ g1
      refine ⟨l, by rw [hμ' k hnf]; exact hl, ?_⟩
      unfold ObjAt at hat ⊢
      split
      · rename_i hr
        simp only [hr, if_true] at hat
        obtain ⟨C, elem, fz, a1, a2, a3, a4⟩ := hat
        refine ⟨C, elem, fz, a1, a2, fun j x hx => ?_, a4⟩
        obtain ⟨v, hv, hrep⟩ := a3 j (x.mapIds σ) (by rw [List.getElem?_map, hx]; rfl)
        exact ⟨v, hv, single x v (g2 x (List.mem_of_getElem? hx)) hrep⟩
      · rename_i hr
        simpa [hr] using hat
  · have hnf : G' k ≠ .free := by rw [hk]; simp
    have hnf' : G' k' ≠ .free := by rw [hk']; simp
    rw [hμ' k hnf] at hl
    rw [hμ' k' hnf'] at hl'
    have f : ∀ k o, G' k = .live o → ∃ o2, G (σ k) = .live o2 ∧ o2.own = o.own := by
      intro k o hk
      rcases hobj k o hk with ⟨g0, g1⟩ | ⟨g1, _⟩
      · rw [(hσ k (by rw [g0]; simp)).2]; exact ⟨o, g1, rfl⟩
      · exact ⟨_, g1, rfl⟩
    obtain ⟨o2, e1, e2⟩ := f k o hk
    obtain ⟨o2', e1', e2'⟩ := f k' o' hk'
    exact h.inj (σ k) (σ k') o2 o2' l l' e1 e1' (e2.trans ho) (e2'.trans ho') hl hl' hr hr' (hinj k k' o o' hk hk' ho ho' hne)
  · intro x y v hn
    induction hn generalizing v with
    | c hok => exact fun hr => .c (single _ _ hok hr.c_inv)
    | agg hok =>
      intro hr
      obtain ⟨vs, rfl, hrs⟩ := hr.agg_inv
      refine .agg (hrs.name fun c hc i hi => ?_)
      obtain ⟨l, hl⟩ := hrs.dom (c.mapIds σ) (List.mem_map_of_mem hc) (σ i) (by rw [mapIds_ids]; exact List.mem_map_of_mem hi)
      exact hμ' i (hok c hc i hi (hdom _ l hl))
    | tup hl _ ih =>
      rename_i as bs _
      intro hr
      obtain ⟨vs, rfl, hlen, hrs⟩ := hr.tup_inv
      refine .tup (hl.trans hlen) fun i a u ha hu => ?_
      have hi : i < bs.length := by rw [← hl]; exact (List.getElem?_eq_some_iff.1 ha).1
      have hb : bs[i]? = some bs[i] := List.getElem?_eq_getElem hi
      exact ih i a _ ha hb u (hrs i _ u hb hu)
    | any => exact fun _ => .any

/-- A state may be taken for a poorer one, seen from a state that stood before it. -/
def Weak (h : AHeap) (T' : List AV) (h' : AHeap) (T'' : List AV) (h'' : AHeap) : Prop :=
  ∀ (B : Nat) (μ0 μ : LMap) (w0 w : World) (a : Act), Rel B μ0 h.get w0 → μ0.le μ → RepT μ T' a → Rel B μ h'.get w → ∃ μ', μ0.le μ' ∧ RepT μ' T'' a ∧ Rel B μ' h''.get w

def ltIds (M : Nat) (c : Cell) : Prop := ∀ i ∈ c.ids, i < M
def AV.lt (M : Nat) : AV → Prop
  | .c x => ltIds M x
  | .agg cs => ∀ x ∈ cs, ltIds M x
  | .tup _ => False
  | .any => True

/-- Slots that are forgotten. -/
def Forget (M : Nat) : List AV → List AV → Prop
  | [], [] => True
  | a :: as, b :: bs => (b = .any ∨ (b = a ∧ b.lt M)) ∧ Forget M as bs
  | _, _ => False

theorem mapIds_id (c : Cell) : c.mapIds id = c := by
  cases c <;> simp [Cell.mapIds]

theorem Forget.length {M : Nat} : ∀ {as bs : List AV}, Forget M as bs → as.length = bs.length
  | [], [], _ => rfl
  | _ :: _, _ :: _, h => by simp [Forget.length h.2]
  | [], _ :: _, h => h.elim
  | _ :: _, [], h => h.elim
theorem Forget.get {M : Nat} : ∀ {as bs : List AV}, Forget M as bs → ∀ (i : Nat) (b : AV), bs[i]? = some b → b = .any ∨ (as[i]? = some b ∧ b.lt M)
  | [], [], _, i, b, h => by simp at h
  | a :: as, c :: bs, hf, 0, b, h => by
    simp at h; subst h
    rcases hf.1 with h1 | ⟨h1, h2⟩
    · exact .inl h1
    · exact .inr ⟨by simp [h1], h2⟩
  | a :: as, c :: bs, hf, i + 1, b, h => by simpa using Forget.get hf.2 i b (by simpa using h)
  | [], _ :: _, h, _, _, _ => h.elim
  | _ :: _, [], h, _, _, _ => h.elim

/-- The last objects are dropped. 'L': the objects at the start; 'L'': those that stay; 'J': those that go. -/
theorem Weak.drop {A A' : Heap} {N : Nat} {L L' J : List Slot} {T' T'' : List AV} (hlen : L.length ≤ L'.length)
    (hA : ∀ k, k < N → A' k ≠ A k → (A k ≠ .free → A' k ≠ .free) ∧ ∀ o, A' k = .live o → ∀ c ∈ o.cells, ltIds (nid N L'.length) c)
    (hL : ∀ (j : Nat) o, L'[j]? = some (.live o) → L[j]? = some (.live o) ∨ ∀ c ∈ o.cells, ltIds (nid N L'.length) c)
    (hfree : ∀ j, j < L.length → L'[j]? ≠ some .free) (hT : Forget (nid N L'.length) T' T'') : Weak ⟨A, N, L⟩ T' ⟨A', N, L' ++ J⟩ T'' ⟨A', N, L'⟩ := by
  intro B μ0 μ w0 w a h0 hle ht h
  have agree : ∀ k, k < nid N L'.length → (⟨A', N, L' ++ J⟩ : AHeap).get k = (⟨A', N, L'⟩ : AHeap).get k := by
    intro k hk
    unfold nid at hk
    simp only [AHeap.get]
    split
    · rfl
    · rw [List.getD_eq_getElem?_getD, List.getD_eq_getElem?_getD, List.getElem?_append_left (by omega)]
  have beyond : ∀ k, nid N L'.length ≤ k → (⟨A', N, L'⟩ : AHeap).get k = .free := by
    intro k hk
    unfold nid at hk
    simp only [AHeap.get]
    rw [if_neg (by omega), List.getD_eq_getElem?_getD, List.getElem?_eq_none (by omega)]; rfl
  have key := h0.restrict (G' := (⟨A', N, L'⟩ : AHeap).get) h hle id (fun k hk => ⟨?_, rfl⟩) (fun k o hk => ?_) (fun k k' o o' _ _ _ _ hne => hne)
  · obtain ⟨μ', h1, h2, h3⟩ := key
    refine ⟨μ', h1, ⟨ht.defers, ht.size.trans hT.length, fun i b hb => ?_⟩, h2⟩
    rcases hT.get i b hb with rfl | ⟨hb', hlt⟩
    · have hi : i < a.tmps.size := by
        rw [ht.size, hT.length]
        exact (List.getElem?_eq_some_iff.1 hb).1
      exact ⟨a.tmps[i], Array.getElem?_eq_getElem hi, .any⟩
    · obtain ⟨v, hv, hr⟩ := ht.get i b hb'
      refine ⟨v, hv, h3 b b v ?_ hr⟩
      have okI : ∀ i, i < nid N L'.length → ((⟨A', N, L' ++ J⟩ : AHeap).get (id i) ≠ .free → (⟨A', N, L'⟩ : AHeap).get i ≠ .free) := fun i hi hf => by rw [← agree i hi]; exact hf
      cases b with
      | c x => have := Named.c (σ := id) (ok := fun i => (⟨A', N, L' ++ J⟩ : AHeap).get (id i) ≠ .free → (⟨A', N, L'⟩ : AHeap).get i ≠ .free) (x := x) (fun i hi => okI i (hlt i hi)); rwa [mapIds_id] at this
      | agg cs =>
        have := Named.agg (σ := id) (ok := fun i => (⟨A', N, L' ++ J⟩ : AHeap).get (id i) ≠ .free → (⟨A', N, L'⟩ : AHeap).get i ≠ .free) (cs := cs) (fun x hx i hi => okI i (hlt x hx i hi))
        have e : cs.map (Cell.mapIds id) = cs := by
          conv => rhs; rw [← List.map_id cs]
          exact List.map_congr_left fun x _ => mapIds_id x
        rwa [e] at this
      | tup _ => exact hlt.elim
      | any => exact .any
  · -- what was there is there
    simp only [AHeap.get] at hk ⊢
    split
    · rename_i hkN
      rw [if_pos hkN] at hk
      by_cases e : A' k = A k
      · rw [e]; exact hk
      · exact (hA k hkN e).1 hk
    · rename_i hkN
      rw [if_neg hkN] at hk
      have hkl : k - N < L.length := by
        rcases Nat.lt_or_ge (k - N) L.length with hh | hh
        · exact hh
        · rw [List.getD_eq_getElem?_getD, List.getElem?_eq_none hh] at hk
          exact absurd rfl hk
      have := hfree (k - N) hkl
      have hkl' : k - N < L'.length := by omega
      rw [List.getD_eq_getElem?_getD, List.getElem?_eq_getElem hkl']
      intro hf
      simp only [Option.getD_some] at hf
      rw [List.getElem?_eq_getElem hkl', hf] at this
      exact this rfl
  · have hkM : k < nid N L'.length := by
      rcases Nat.lt_or_ge k (nid N L'.length) with hh | hh
      · exact hh
      · rw [beyond k hh] at hk; cases hk
    have okI : ∀ c ∈ o.cells, ltIds (nid N L'.length) c → ∀ i ∈ c.ids, (⟨A', N, L' ++ J⟩ : AHeap).get (id i) ≠ .free → (⟨A', N, L'⟩ : AHeap).get i ≠ .free := fun c hc hlt i hi hf => by
      rw [← agree i (hlt i hi)]; exact hf
    have emap : ∀ o : AObj, (⟨o.cells.map (Cell.mapIds id), o.own⟩ : AObj) = o := by
      intro o
      have e : o.cells.map (Cell.mapIds id) = o.cells := by
        conv => rhs; rw [← List.map_id o.cells]
        exact List.map_congr_left fun x _ => mapIds_id x
      rw [e]
    rw [emap]
    have hk2 := (agree k hkM).trans hk
    simp only [AHeap.get] at hk
    split at hk
    · rename_i hkN
      by_cases e : A' k = A k
      · left
        refine ⟨?_, hk2⟩
        simp only [AHeap.get, hkN, if_true]
        rw [← e]; exact hk
      · right
        exact ⟨hk2, fun c hc => okI c hc ((hA k hkN e).2 o hk c hc)⟩
    · rename_i hkN
      have hj : L'[k - N]? = some (.live o) := by
        rw [List.getD_eq_getElem?_getD] at hk
        cases hq : L'[k - N]? with
        | none => rw [hq] at hk; cases hk
        | some s => rw [hq] at hk; simp at hk; rw [hk]
      rcases hL (k - N) o hj with hh | hh
      · left
        refine ⟨?_, hk2⟩
        simp only [AHeap.get, hkN, if_false, List.getD_eq_getElem?_getD, hh, Option.getD_some]
      · right
        exact ⟨hk2, fun c hc => okI c hc (hh c hc)⟩
end Go.Abs
