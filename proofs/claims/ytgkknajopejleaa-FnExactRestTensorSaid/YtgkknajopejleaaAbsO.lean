/- Loops that lay new objects, ends of rounds, slices as arguments. -/
import Derived.Test.YtgkknajopejleaaAbsN
set_option linter.unusedVariables false
namespace Go.Abs
open Go.RowKit (Below)
universe u

section
variable {P : Program} {K : Exit → List AV → AHeap → Prop} {T : List AV} {h : AHeap}

/-- A loop, its rounds seen from its start. -/
theorem awp_loop0 {c : Code} (I : Nat → List AV → AHeap → Prop) {n : Nat} (h0 : I n T h) (round : ∀ n T' h', I n T' h' → AWP P c (loopK I n h K) T' h') : AWP P (.loop c) K T h := by
  intro B μ a w ht hr
  refine wp_loopN (fun n a' w' => ∃ μ' T' h', I n T' h' ∧ μ.le μ' ∧ RepT μ' T' a' ∧ Rel B μ' h'.get w' ∧ Below B w w') ?_ (n := n) ⟨μ, T, h, h0, LMap.le_refl _, ht, hr, Below.refl _ _⟩
  rintro n a' w' ⟨μ', T', h', i1, i2, i3, i4, i5⟩
  refine wp_mono (round n T' h' i1 B μ' a' w' i3 i4) ?_
  rintro e a2 w2 ⟨μ2, T2, h2, g1, g2, g3, g4, g5⟩
  cases e with
  | normal =>
    obtain ⟨m, T3, h3, k1, k2, k3⟩ := g1
    obtain ⟨μ3, l1, l2, l3⟩ := k3 B μ μ2 w w2 a2 hr (LMap.le_trans i2 g2) g3 g4
    exact ⟨m, k1, μ3, T3, h3, k2, l1, l2, l3, i5.trans g5⟩
  | _ => exact ⟨μ2, T2, h2, g1, LMap.le_trans i2 g2, g3, g4, i5.trans g5⟩

theorem swp_loop0 {x : SCode} (I : Nat → List AV → AHeap → Prop) {n : Nat} (h0 : I n T h) (round : ∀ n T' h', I n T' h' → SWP P x (loopK I n h K) T' h') : SWP P (.loop x) K T h := by
  intro c hl
  obtain ⟨a, rfl, h1⟩ := lower_loop hl
  exact awp_loop0 I h0 fun n T h hi => round n T h hi a h1
end

theorem Weak.tle {h0 h : AHeap} {T' T'' : List AV} (hT : TLe T' T'') : Weak h0 T' h T'' h :=
  fun _ _ μ _ _ _ _ hle ht hR => ⟨μ, hle, hT.rep ht, hR⟩

/-- The names of a heap whose new slots stand elsewhere: 's': for each slot of the target its place in the source. -/
def renS (N : Nat) (s : List Nat) (k : Nat) : Nat := if k < N then k else nid N (s.getD (k - N) (k - N + s.sum + s.length))

def RenC (N : Nat) (s : List Nat) (x : Cell) : Cell := x.mapIds (renS N s)

def RenSl (N : Nat) (s : List Nat) : Slot → Slot → Prop
  | _, .dead => True
  | .live o', .live o => o' = ⟨o.cells.map (RenC N s), o.own⟩ ∧ ∀ c ∈ o.cells, ltIds (nid N s.length) c
  | _, _ => False

def RenL (N : Nat) (s0 : List Nat) (L' : List Slot) : List Nat → List Slot → Prop
  | [], [] => True
  | x :: s, t :: L'' => RenSl N s0 (gd L' x) t ∧ RenL N s0 L' s L''
  | _, _ => False

def RenV (N : Nat) (s : List Nat) : AV → AV → Prop
  | _, .any => True
  | .c y, .c x => y = RenC N s x ∧ ltIds (nid N s.length) x
  | .agg ys, .agg xs => ys = xs.map (RenC N s) ∧ ∀ x ∈ xs, ltIds (nid N s.length) x
  | _, _ => False

def RenT (N : Nat) (s : List Nat) : List AV → List AV → Prop
  | [], [] => True
  | a :: as, b :: bs => RenV N s a b ∧ RenT N s as bs
  | _, _ => False

theorem RenL.length {N : Nat} {s0 : List Nat} {L' : List Slot} : ∀ {s : List Nat} {L'' : List Slot}, RenL N s0 L' s L'' → s.length = L''.length
  | [], [], _ => rfl
  | _ :: _, _ :: _, h => by simp [RenL.length h.2]
  | [], _ :: _, h => h.elim
  | _ :: _, [], h => h.elim
theorem RenL.get {N : Nat} {s0 : List Nat} {L' : List Slot} : ∀ {s : List Nat} {L'' : List Slot}, RenL N s0 L' s L'' → ∀ (j : Nat) (t : Slot), L''[j]? = some t → ∃ x, s[j]? = some x ∧ RenSl N s0 (gd L' x) t
  | [], [], _, j, t, ht => by simp at ht
  | x :: s, t :: L'', h, 0, u, hu => by simp at hu; subst hu; exact ⟨x, rfl, h.1⟩
  | x :: s, t :: L'', h, j + 1, u, hu => by simpa using RenL.get h.2 j u (by simpa using hu)
  | [], _ :: _, h, _, _, _ => h.elim
  | _ :: _, [], h, _, _, _ => h.elim
theorem RenT.length {N : Nat} {s0 : List Nat} : ∀ {as bs : List AV}, RenT N s0 as bs → as.length = bs.length
  | [], [], _ => rfl
  | _ :: _, _ :: _, h => by simp [RenT.length h.2]
  | [], _ :: _, h => h.elim
  | _ :: _, [], h => h.elim
theorem RenT.get {N : Nat} {s0 : List Nat} : ∀ {as bs : List AV}, RenT N s0 as bs → ∀ (i : Nat) (b : AV), bs[i]? = some b → ∃ a, as[i]? = some a ∧ RenV N s0 a b
  | [], [], _, i, b, h => by simp at h
  | a :: as, c :: bs, hf, 0, b, h => by simp at h; subst h; exact ⟨a, rfl, hf.1⟩
  | a :: as, c :: bs, hf, i + 1, b, h => by simpa using RenT.get hf.2 i b (by simpa using h)
  | [], _ :: _, h, _, _, _ => h.elim
  | _ :: _, [], h, _, _, _ => h.elim

/-- New slots are dropped or moved. -/
theorem Weak.ren {A A' : Heap} {N : Nat} {L L' L'' : List Slot} {T' T'' : List AV} (s : List Nat) (hpre : ∀ j, j < L.length → s[j]? = some j) (hnd : s.Nodup)
    (hA : ∀ k, k < N → A' k = A k ∨ (A' k ≠ .free ∧ ∀ o, A' k = .live o → flat o.cells))
    (hL : RenL N s L' s L'') (hT : RenT N s T' T'') : Weak ⟨A, N, L⟩ T' ⟨A', N, L'⟩ T'' ⟨A', N, L''⟩ := by
  intro B μ0 μ w0 w a h0 hle ht h
  have hlen := hL.length
  have old : ∀ k, k < N → renS N s k = k := fun k hk => by simp [renS, hk]
  have new : ∀ j x, s[j]? = some x → renS N s (nid N j) = nid N x := by
    intro j x hx
    have h1 : ¬ nid N j < N := by unfold nid; omega
    have h2 : nid N j - N = j := by unfold nid; omega
    rw [renS, if_neg h1, h2, List.getD_eq_getElem?_getD, hx]; rfl
  have split : ∀ k, k < N ∨ ∃ j, k = nid N j := by
    intro k
    rcases Nat.lt_or_ge k N with hk | hk
    · exact .inl hk
    · exact .inr ⟨k - N, by unfold nid; omega⟩
  have getN : ∀ (M : List Slot) j, (⟨A', N, M⟩ : AHeap).get (nid N j) = gd M j := fun M j => get_new
  have getO : ∀ (M : List Slot) k, k < N → (⟨A', N, M⟩ : AHeap).get k = A' k := fun M k hk => get_old hk
  have gdsome : ∀ {M : List Slot} {j : Nat}, j < M.length → M[j]? = some (gd M j) := by
    intro M j hj
    rw [gd_eq, List.getD_eq_getElem?_getD, List.getElem?_eq_getElem hj]; rfl
  have noFree : ∀ j, j < L''.length → gd L'' j ≠ .free := by
    intro j hj hf
    obtain ⟨x, _, hx⟩ := hL.get j _ (gdsome hj)
    rw [hf] at hx
    cases hg : gd L' x <;> rw [hg] at hx <;> exact hx
  -- what lies below the bound is there in the target as soon as it is in the source
  have okI : ∀ i, i < nid N s.length → (⟨A', N, L'⟩ : AHeap).get (renS N s i) ≠ .free → (⟨A', N, L''⟩ : AHeap).get i ≠ .free := by
    intro i hi hf
    rcases split i with hk | ⟨j, rfl⟩
    · rw [old i hk, getO _ _ hk] at hf
      rw [getO _ _ hk]; exact hf
    · have hj : j < L''.length := by unfold nid at hi; omega
      rw [getN]; exact noFree j hj
  have beyond : ∀ j, L''.length ≤ j → gd L'' j = .free := by
    intro j hj
    rw [gd_eq, List.getD_eq_getElem?_getD, List.getElem?_eq_none hj]; rfl
  have key := h0.restrict (G' := (⟨A', N, L''⟩ : AHeap).get) h hle (renS N s) (fun k hk => ?_) (fun k o hk => ?_) (fun k k' o o' hk hk' _ _ hne => ?_)
  · obtain ⟨μ', h1, h2, h3⟩ := key
    refine ⟨μ', h1, ⟨ht.defers, ht.size.trans hT.length, fun i b hb => ?_⟩, h2⟩
    obtain ⟨y, hy, hv⟩ := hT.get i b hb
    obtain ⟨v, hvv, hr⟩ := ht.get i y hy
    refine ⟨v, hvv, ?_⟩
    cases b with
    | any => exact .any
    | tup _ => cases y <;> exact hv.elim
    | c x =>
      cases y with
      | c y =>
        obtain ⟨rfl, hlt⟩ := hv
        exact h3 _ _ v (Named.c (x := x) fun i hi => okI i (hlt i hi)) hr
      | _ => exact hv.elim
    | agg xs =>
      cases y with
      | agg ys =>
        obtain ⟨rfl, hlt⟩ := hv
        exact h3 _ _ v (Named.agg (cs := xs) fun x hx i hi => okI i (hlt x hx i hi)) hr
      | _ => exact hv.elim
  · -- what was there at the start
    rcases split k with hkN | ⟨j, rfl⟩
    · refine ⟨?_, old k hkN⟩
      rw [get_old hkN] at hk
      rw [getO _ _ hkN]
      rcases hA k hkN with e | e
      · rw [e]; exact hk
      · exact e.1
    · rw [get_new] at hk
      have hj : j < L.length := by
        rcases Nat.lt_or_ge j L.length with hh | hh
        · exact hh
        · exact absurd (by rw [gd_eq, List.getD_eq_getElem?_getD, List.getElem?_eq_none hh]; rfl) hk
      have hx := hpre j hj
      have hj' : j < L''.length := by
        have := (List.getElem?_eq_some_iff.1 hx).1; omega
      exact ⟨by rw [getN]; exact noFree j hj', new j j hx⟩
  · rcases split k with hkN | ⟨j, rfl⟩
    · rw [getO _ _ hkN] at hk
      rcases hA k hkN with e | ⟨_, e⟩
      · left
        exact ⟨by rw [get_old hkN, ← e]; exact hk, by rw [getO _ _ hkN]; exact hk⟩
      · right
        rw [old k hkN, getO _ _ hkN]
        have hf := e o hk
        refine ⟨?_, fun c hc i hi => by rw [hf c hc] at hi; cases hi⟩
        rw [map_flat hf]; exact hk
    · rw [getN] at hk
      have hj : j < L''.length := by
        rcases Nat.lt_or_ge j L''.length with hh | hh
        · exact hh
        · rw [beyond j hh] at hk; cases hk
      obtain ⟨x, hx, hr⟩ := hL.get j _ (gdsome hj)
      rw [hk] at hr
      right
      rw [new j x hx, getN]
      cases hg : gd L' x with
      | live o' =>
        rw [hg] at hr
        obtain ⟨rfl, hlt⟩ := hr
        exact ⟨rfl, fun c hc i hi => okI i (hlt c hc i hi)⟩
      | free => rw [hg] at hr; exact hr.elim
      | dead => rw [hg] at hr; exact hr.elim
  · have lt : ∀ k o, (⟨A', N, L''⟩ : AHeap).get k = .live o → k < N ∨ ∃ j x, k = nid N j ∧ s[j]? = some x := by
      intro k o hk
      rcases split k with hkN | ⟨j, rfl⟩
      · exact .inl hkN
      · rw [getN] at hk
        have hj : j < L''.length := by
          rcases Nat.lt_or_ge j L''.length with hh | hh
          · exact hh
          · rw [beyond j hh] at hk; cases hk
        exact .inr ⟨j, _, rfl, List.getElem?_eq_getElem (by omega)⟩
    rcases lt k o hk with h1 | ⟨j, x, rfl, hx⟩ <;> rcases lt k' o' hk' with h2 | ⟨j', x', rfl, hx'⟩
    · rw [old k h1, old k' h2]; exact hne
    · rw [old k h1, new j' x' hx']; unfold nid; omega
    · rw [new j x hx, old k' h2]; unfold nid; omega
    · rw [new j x hx, new j' x' hx']
      intro e
      have : x = x' := by unfold nid at e; omega
      subst this
      have inj : ∀ {s : List Nat}, s.Nodup → ∀ (j j' : Nat), s[j]? = some x → s[j']? = some x → j = j' := by
        intro s
        induction s with
        | nil => intro _ j j' h; simp at h
        | cons y s ih =>
          intro hd j j' h h'
          simp only [List.nodup_cons] at hd
          cases j <;> cases j'
          · rfl
          · simp at h h'; subst h; exact absurd (List.mem_of_getElem? h') hd.1
          · simp at h h'; subst h'; exact absurd (List.mem_of_getElem? h) hd.1
          · simp at h h'; rw [ih hd.2 _ _ h h']
      exact hne (by rw [inj hnd j j' hx hx'])

/-! ### Slices as arguments -/
/-- A slice that is all of an object, or none: 'n' elements of 'es' cells each. -/
inductive Sl (es : Nat) (cells : List Cell) (n : Nat) : Cell → List (Nat × AObj) → Prop
  | nil : cells = [] → n = 0 → Sl es cells n .nils []
  | mk (k : Nat) (own : Bool) : cells.length = n * es → Sl es cells n (.slice k 0 n es) [(k, ⟨cells, own⟩)]

def i64s (l : List Int) : List Cell := l.map (Cell.int .i64)
def u8s (l : List Int) : List Cell := l.map (Cell.int .u8)
@[go_sem] theorem i64s_length (l : List Int) : (i64s l).length = l.length := by simp [i64s]
@[go_sem] theorem u8s_length (l : List Int) : (u8s l).length = l.length := by simp [u8s]
theorem flat_i64s (l : List Int) : flat (i64s l) := by
  intro c hc
  obtain ⟨x, _, rfl⟩ := List.mem_map.1 hc
  rfl
theorem flat_u8s (l : List Int) : flat (u8s l) := by
  intro c hc
  obtain ⟨x, _, rfl⟩ := List.mem_map.1 hc
  rfl
@[go_sem] theorem withCell_i64s {l : List Int} {i : Nat} {F : Cell → Prop} (h : i < l.length) : withCell (i64s l) i (.mk F) = F (.int .i64 (l.getD i 0)) :=
  withCell_eq (by simp [i64s, h])
@[go_sem] theorem withCell_u8s {l : List Int} {i : Nat} {F : Cell → Prop} (h : i < l.length) : withCell (u8s l) i (.mk F) = F (.int .u8 (l.getD i 0)) :=
  withCell_eq (by simp [u8s, h])
@[go_sem] theorem toNat_cast (n : Nat) : ((n : Int)).toNat = n := Int.toNat_natCast n
@[go_sem] theorem toNat_succ (n : Nat) : ((n : Int) + 1).toNat = n + 1 := by omega
attribute [go_sem] Nat.mul_one Nat.one_mul Nat.zero_add Nat.add_zero
theorem Sl.len {P : Program} {es : Nat} {cells : List Cell} {n : Nat} {c : Cell} {rs : List (Nat × AObj)} (h : Sl es cells n c rs) {eb : Nat} {ez : List Cell} {K : Kont} : lenE (.slice es eb ez) (.c c) (.mk K) = K (.c (.int .i64 n)) [] [] := by
  cases h with
  | nil h1 h2 => subst h2; rfl
  | mk => rfl
theorem Sl.some {es : Nat} {cells : List Cell} {n : Nat} {c : Cell} {rs : List (Nat × AObj)} (h : Sl es cells n c rs) {i : Nat} (hi : i < n) : ∃ k own, c = .slice k 0 n es ∧ rs = [(k, ⟨cells, own⟩)] ∧ cells.length = n * es := by
  cases h with
  | nil h1 h2 => omega
  | mk k own h => exact ⟨k, own, rfl, rfl, h⟩
@[go_sem] theorem rep_i64 {n : Nat} {x : Int} : (List.replicate n [Cell.int .i64 x]).flatten = i64s (List.replicate n x) := by
  simp [i64s]
@[go_sem] theorem rep_u8 {n : Nat} {x : Int} : (List.replicate n [Cell.int .u8 x]).flatten = u8s (List.replicate n x) := by
  simp [u8s]
@[go_sem] theorem splice_i64s {l : List Int} {i : Nat} {x : Int} (h : i < l.length) : splice (i64s l) i [.int .i64 x] = i64s (l.set i x) := by
  simp only [splice, i64s, List.length_cons, List.length_nil]
  rw [← List.map_take, ← List.map_drop, List.set_eq_take_append_cons_drop, if_pos h]
  simp
@[go_sem] theorem splice_u8s {l : List Int} {i : Nat} {x : Int} (h : i < l.length) : splice (u8s l) i [.int .u8 x] = u8s (l.set i x) := by
  simp only [splice, u8s, List.length_cons, List.length_nil]
  rw [← List.map_take, ← List.map_drop, List.set_eq_take_append_cons_drop, if_pos h]
  simp
attribute [go_sem] List.length_set List.length_replicate List.length_take List.length_append
/-- The first 'i' places are filled. -/
def filled (l o : List Int) (i : Nat) : List Int := l.take i ++ o.drop i
theorem filled_zero (l o : List Int) : filled l o 0 = o := by simp [filled]
theorem filled_length {l o : List Int} (h : l.length = o.length) (i : Nat) : (filled l o i).length = l.length := by simp [filled]; omega
theorem filled_all {l o : List Int} (h : l.length = o.length) : filled l o l.length = l := by
  simp only [filled, List.take_length]; rw [h, List.drop_length, List.append_nil]
theorem filled_set {l o : List Int} (h : l.length = o.length) {i : Nat} (hi : i < l.length) : (filled l o i).set i (l.getD i 0) = filled l o (i + 1) := by
  apply List.ext_getElem?
  intro j
  simp only [filled, List.getElem?_set, List.length_append, List.length_take, List.length_drop, List.getElem?_append, List.getElem?_take, List.getElem?_drop, List.getD_eq_getElem?_getD]
  rcases Nat.lt_trichotomy j i with h1 | h1 | h1
  · rw [if_neg (by omega), if_pos (by omega), if_pos h1, if_pos (by omega), if_pos (by omega)]
  · subst h1
    rw [if_pos rfl, if_pos (by omega), if_pos (by omega), if_pos (by omega), List.getElem?_eq_getElem hi]; rfl
  · rw [if_neg (by omega), if_neg (by omega), if_neg (by omega)]
    congr 1; omega
theorem filled_get {l o : List Int} (h : l.length = o.length) {i j : Nat} (hj : i ≤ j) (hi : i ≤ l.length) : (filled l o i).getD j 0 = o.getD j 0 := by
  simp only [filled, List.getD_eq_getElem?_getD, List.getElem?_append, List.length_take, List.getElem?_drop]
  rw [if_neg (by omega)]; congr 2; omega
end Go.Abs
