/- Loops by a state, ends, calls that lay new objects. -/
import Derived.Test.YtgkknajopejleaaAbsO
namespace Go.Abs
open Go.RowKit (Below)

section
variable {P : Program} {K : Exit → List AV → AHeap → Prop} {T : List AV} {h : AHeap}

def forK {σ : Type} (S : σ → List AV) (H : σ → AHeap) (mea : σ → Nat) (Inv : σ → Prop) (h0 : AHeap) (s : σ) (K : Exit → List AV → AHeap → Prop) : Exit → List AV → AHeap → Prop
  | .normal, T', h' => ∃ s', mea s' < mea s ∧ Inv s' ∧ Weak h0 T' h' (S s') (H s')
  | e, T', h' => K e T' h'
theorem forK_exit {σ : Type} {S : σ → List AV} {H : σ → AHeap} {mea : σ → Nat} {Inv : σ → Prop} {h0 : AHeap} {s : σ} {id : Nat} (hy : K (.exit id) T h) : forK S H mea Inv h0 s K (.exit id) T h := hy
theorem forK_ret {σ : Type} {S : σ → List AV} {H : σ → AHeap} {mea : σ → Nat} {Inv : σ → Prop} {h0 : AHeap} {s : σ} (hy : K .ret T h) : forK S H mea Inv h0 s K .ret T h := hy
/-- A round's end: a poorer state. -/
theorem forK_same {σ : Type} {S : σ → List AV} {H : σ → AHeap} {mea : σ → Nat} {Inv : σ → Prop} {h0 : AHeap} {s : σ} (s' : σ) (h1 : mea s' < mea s) (h2 : Inv s') (h3 : h = H s') (h4 : TLe T (S s')) : forK S H mea Inv h0 s K .normal T h :=
  ⟨s', h1, h2, by subst h3; exact Weak.tle h4⟩
theorem forK_ren {σ : Type} {S : σ → List AV} {H : σ → AHeap} {mea : σ → Nat} {Inv : σ → Prop} {A A' : Heap} {N : Nat} {L L' L'' : List Slot} {s : σ} (s' : σ) (p : List Nat) (h1 : mea s' < mea s) (h2 : Inv s') (h3 : H s' = ⟨A', N, L''⟩)
    (hpre : ∀ j, j < L.length → p[j]? = some j) (hnd : p.Nodup) (hA : ∀ k, k < N → A' k = A k ∨ (A' k ≠ .free ∧ ∀ o, A' k = .live o → flat o.cells))
    (hL : RenL N p L' p L'') (hT : RenT N p T (S s')) : forK S H mea Inv ⟨A, N, L⟩ s K .normal T ⟨A', N, L'⟩ :=
  ⟨s', h1, h2, by rw [h3]; exact Weak.ren p hpre hnd hA hL hT⟩

/-- A loop by a state, seen from its start. -/
theorem swp_for {σ : Type} {x : SCode} (S : σ → List AV) (H : σ → AHeap) (mea : σ → Nat) (Inv : σ → Prop) (s0 : σ) (h0 : Inv s0) (hh : h = H s0) (hT : TLe T (S s0))
    (round : ∀ s, Inv s → SWP P x (forK S H mea Inv h s K) (S s) (H s)) : SWP P (.loop x) K T h := by
  refine swp_forget hT ?_
  refine swp_loop0 (I := fun m T' h' => ∃ s, Inv s ∧ mea s = m ∧ T' = S s ∧ h' = H s) (n := mea s0) ⟨s0, h0, rfl, rfl, hh⟩ ?_
  rintro m T' h' ⟨s, hs, rfl, rfl, rfl⟩
  refine swp_mono (round s hs) fun e T2 h2 hk => ?_
  cases e with
  | normal => obtain ⟨s', g1, g2, g3⟩ := hk; exact ⟨mea s', S s', H s', g1, ⟨s', g2, rfl, rfl, rfl⟩, g3⟩
  | _ => exact hk
end

section
variable {P : Program} {G : Heap} {N : Nat} {L : List Slot} {T : List AV}
/-- The new slice that a body hands out. -/
theorem ret_slice (hN : ∀ k, N ≤ k → G k = .free) (n j : Nat) (cs : List Cell) {t : Tmp} {m es : Nat} (ht : rd T t = .c (.slice (nid N j) 0 m es)) (hn : G n = .free) (hL : gd L j = .live ⟨cs, true⟩) (hc : flat cs) :
    retS P [.tmp t] G N (.c (.slice n 0 m es)) [(n, .live ⟨cs, true⟩)] .ret T ⟨G, N, L⟩ := by
  refine ret_new1 hN n j cs hn hL hc [_] ⟨ht.symm, trivial⟩ ?_
  have := Named.c (σ := nameOf N [(n, j, cs)]) (ok := fun i => i = n) (x := .slice n 0 m es) (by simp [Cell.ids])
  simpa [Cell.mapIds, nameOf, resOf] using this
end

theorem ret_eq {P : Program} {G : Heap} {N : Nat} {L : List Slot} {T : List AV} (hN : ∀ k, N ≤ k → G k = .free) {t : Tmp} {x y : Cell} (ht : rd T t = .c x) (hx : x.ids = []) (e : x = y) : retS P [.tmp t] G N (.c y) [] .ret T ⟨G, N, L⟩ := by
  subst e; exact ret_cell hN ht hx

theorem putsG_cases : ∀ (ws : List (Nat × Slot)) (G : Heap) (k : Nat), putsG G ws k = G k ∨ ∃ p ∈ ws, p.1 = k ∧ putsG G ws k = p.2
  | [], _, _ => .inl rfl
  | (n, s) :: ws, G, k => by
    rcases putsG_cases ws (upd G n s) k with h | ⟨p, h1, h2, h3⟩
    · by_cases e : k = n
      · subst e; right; exact ⟨(k, s), by simp, rfl, by show putsG (upd G k s) ws k = s; rw [h, upd_same]⟩
      · left; show putsG (upd G n s) ws k = G k; rw [h, upd_ne _ _ e]
    · right; exact ⟨p, by simp [h1], h2, h3⟩
/-- A plain value, old objects written to. -/
theorem ret_writes {P : Program} {G : Heap} {N : Nat} {L : List Slot} {T : List AV} (hN : ∀ k, N ≤ k → G k = .free) {ws : List (Nat × Slot)} (hw : ∀ p ∈ ws, p.1 < N ∧ ∃ cs own, p.2 = .live ⟨cs, own⟩ ∧ flat cs) {rs : List ResultVar} {val : AV} (vs : List AV) (hr : resAll P T ⟨putsG G ws, N, L⟩ rs vs) (he : resOf vs = val) (hv : NoIds val) :
    retS P rs G N val ws .ret T ⟨putsG G ws, N, L⟩ := by
  subst he
  have out : ∀ k, N ≤ k → putsG G ws k = .free := by
    intro k hk
    rcases putsG_cases ws G k with h | ⟨p, h1, h2, h3⟩
    · rw [h]; exact hN k hk
    · have := (hw p h1).1; omega
  refine ⟨vs, id, hr, fun _ _ => rfl, fun k o hk => ?_, fun k hk => ?_, fun k k' o o' _ _ _ _ hne => hne, hv.named⟩
  · have hlt : k < N := by
      rcases Nat.lt_or_ge k N with h | h
      · exact h
      · rw [out k h] at hk; cases hk
    rcases putsG_cases ws G k with h | ⟨p, h1, h2, h3⟩
    · left; exact ⟨by rw [← h]; exact hk, by rw [get_old hlt]; exact hk⟩
    · right
      obtain ⟨_, cs, own, e1, e2⟩ := hw p h1
      rw [h3, e1] at hk
      cases hk
      refine ⟨?_, fun c hc i hi => by rw [e2 c hc] at hi; cases hi⟩
      rw [id, get_old hlt, map_flat e2, h3, e1]
  · rcases putsG_cases ws G k with h | ⟨p, h1, h2, h3⟩
    · rw [h]; exact hk
    · obtain ⟨_, cs, own, e1, e2⟩ := hw p h1
      rw [h3, e1]; simp
theorem ret_write1 {P : Program} {G : Heap} {N : Nat} {L : List Slot} {T : List AV} (hN : ∀ k, N ≤ k → G k = .free) {k : Nat} {cs : List Cell} {own : Bool} (hk : k < N) (hf : flat cs) {t : Tmp} {x y : Cell} (ht : rd T t = .c x) (hx : x.ids = []) (e : x = y) :
    retS P [.tmp t] G N (.c y) [(k, .live ⟨cs, own⟩)] .ret T ⟨upd G k (.live ⟨cs, own⟩), N, L⟩ := by
  subst e
  exact ret_writes hN (ws := [(k, .live ⟨cs, own⟩)]) (by simp only [List.mem_singleton]; rintro p rfl; exact ⟨hk, cs, own, rfl, hf⟩) [.c x] ⟨ht.symm, trivial⟩ rfl (.c hx)
/-- A slice that is written through: its new cells. -/
inductive SlW (es : Nat) (cells new : List Cell) (n : Nat) : Cell → List (Nat × AObj) → List (Nat × Slot) → Prop
  | nil : cells = [] → new = [] → n = 0 → SlW es cells new n .nils [] []
  | mk (k : Nat) : cells.length = n * es → SlW es cells new n (.slice k 0 n es) [(k, ⟨cells, true⟩)] [(k, .live ⟨new, true⟩)]
theorem SlW.len {es : Nat} {cells new : List Cell} {n : Nat} {c : Cell} {rs : List (Nat × AObj)} {ws : List (Nat × Slot)} (h : SlW es cells new n c rs ws) {eb : Nat} {ez : List Cell} {K : Kont} : lenE (.slice es eb ez) (.c c) (.mk K) = K (.c (.int .i64 n)) [] [] := by
  cases h with
  | nil h1 h2 h3 => subst h3; rfl
  | mk => rfl
/-- k, k + 1, .. -/
def marks (k : Int) : Nat → List Int
  | 0 => []
  | n + 1 => k :: marks (k + 1) n
theorem marks_length : ∀ (n : Nat) (k : Int), (marks k n).length = n
  | 0, _ => rfl
  | n + 1, k => by simp [marks, marks_length n]
theorem marks_get : ∀ (n : Nat) (k : Int) (i : Nat), i < n → (marks k n).getD i 0 = k + i
  | 0, _, i, h => by omega
  | n + 1, k, 0, _ => by simp [marks]
  | n + 1, k, i + 1, h => by
    have := marks_get n (k + 1) i (by omega)
    simp only [marks, List.getD_cons_succ, this]; omega
theorem take_succ_eq {a b : List Int} {i : Nat} (ha : i < a.length) (hb : i < b.length) (h : a.take i = b.take i) (he : a.getD i 0 = b.getD i 0) : a.take (i + 1) = b.take (i + 1) := by
  rw [List.take_succ_eq_append_getElem ha, List.take_succ_eq_append_getElem hb, h]
  simp [List.getD_eq_getElem?_getD, ha, hb] at he
  rw [he]

theorem get_rd {G : Heap} {N : Nat} {L : List Slot} {rs : List (Nat × AObj)} (hr : ∀ p ∈ rs, G p.1 = .live p.2 ∧ p.1 < N) : ∀ p ∈ rs, (⟨G, N, L⟩ : AHeap).get p.1 = .live p.2 := by
  intro p hp
  rw [get_old (hr p hp).2]; exact (hr p hp).1
theorem call_ro {P : Program} {f : FuncId} {args : List AV} {h : AHeap} {K : Kont} {val : AV} {reads : List (Nat × AObj)} (hs : FSpec P f args val reads [])
    (h1 : ∀ p ∈ reads, h.get p.1 = .live p.2) (hK : K val reads []) : vCall P f args h (.mk K) := call_intro hs h1 (by simp) hK
theorem puts_old {G : Heap} {N : Nat} {L : List Slot} {ws : List (Nat × Slot)} (hw : ∀ p ∈ ws, p.1 < N) : (⟨G, N, L⟩ : AHeap).puts ws = ⟨putsG G ws, N, L⟩ := by
  induction ws generalizing G with
  | nil => rfl
  | cons p ws ih =>
    rw [puts_cons, put_old (hw p (by simp)), ih (fun q hq => hw q (by simp [hq]))]; rfl
theorem SlW.flat {es : Nat} {cells new : List Cell} {n : Nat} {c : Cell} {rs : List (Nat × AObj)} {ws : List (Nat × Slot)} (h : SlW es cells new n c rs ws) (hf : Abs.flat new) : ∀ p ∈ ws, ∃ cs own, p.2 = .live ⟨cs, own⟩ ∧ Abs.flat cs := by
  cases h with
  | nil => simp
  | mk k h => simp only [List.mem_singleton]; rintro p rfl; exact ⟨_, _, rfl, hf⟩
theorem rd1 {A : Heap} {N : Nat} {L : List Slot} {j : Nat} {o : AObj} (h : gd L j = .live o) : ∀ p ∈ [(nid N j, o)], (⟨A, N, L⟩ : AHeap).get p.1 = .live p.2 := by
  simp only [List.mem_singleton]; rintro p rfl; rw [get_new]; exact h
theorem rd2 {A : Heap} {N : Nat} {L : List Slot} {j j' : Nat} {o o' : AObj} (h : gd L j = .live o) (h' : gd L j' = .live o') : ∀ p ∈ [(nid N j, o)] ++ [(nid N j', o')], (⟨A, N, L⟩ : AHeap).get p.1 = .live p.2 := by
  simp only [List.mem_append, List.mem_singleton]; rintro p (rfl | rfl) <;> rw [get_new]
  · exact h
  · exact h'
theorem rd0 {h : AHeap} : ∀ p ∈ ([] ++ [] : List (Nat × AObj)), h.get p.1 = .live p.2 := by simp
theorem wr1 {h : AHeap} {k : Nat} {o : AObj} {s : Slot} : ∀ p ∈ [(k, s)], (∃ ob, (p.1, ob) ∈ [(k, o)]) ∨ h.get p.1 = .free := by
  simp only [List.mem_singleton]; rintro p rfl; exact .inl ⟨o, rfl⟩
theorem Sl.of64 {k n : Nat} {own : Bool} {l : List Int} (h : l.length = n) : Sl 1 (i64s l) l.length (.slice k 0 n 1) [(k, ⟨i64s l, own⟩)] := by
  subst h; exact Sl.mk k own (by simp [i64s])
theorem Sl.nil64 : Sl 1 (i64s []) ([] : List Int).length .nils [] := Sl.nil rfl rfl
theorem SlW.of64 {k n : Nat} {l l' : List Int} (h : l.length = n) : SlW 1 (i64s l) (i64s l') l.length (.slice k 0 n 1) [(k, ⟨i64s l, true⟩)] [(k, .live ⟨i64s l', true⟩)] := by
  subst h; exact SlW.mk k (by simp [i64s])
theorem SlW.nil64 {k : Int} : SlW 1 (i64s []) (i64s (marks k ([] : List Int).length)) ([] : List Int).length .nils [] [] := SlW.nil rfl rfl rfl
theorem call_new1 {P : Program} {f : FuncId} {args : List AV} {h : AHeap} {K : Kont} {val : Nat → AV} {rs : List (Nat × AObj)} {s : Slot}
    (hs : ∀ k, (∀ p ∈ rs, p.1 ≠ k) → FSpec P f args (val k) rs [(k, s)]) (h1 : ∀ p ∈ rs, h.get p.1 = .live p.2) (hf : h.get h.nxt = .free) (hK : K (val h.nxt) rs [(h.nxt, s)]) : vCall P f args h (.mk K) := by
  refine call_intro (hs h.nxt fun p hp e => ?_) h1 ?_ hK
  · have := h1 p hp; rw [e, hf] at this; cases this
  · intro p hp
    rw [List.mem_singleton] at hp
    subst hp
    exact .inr hf
theorem nxt_free {A : Heap} {N : Nat} {L : List Slot} : (⟨A, N, L⟩ : AHeap).get (nid N L.length) = .free := by
  rw [get_new, gd_eq, List.getD_eq_getElem?_getD, List.getElem?_eq_none (Nat.le_refl _)]; rfl
/-! ### New slots of no known number -/
@[go_sem] theorem gd_setAt_same : ∀ {L : List Slot} {i : Nat} {s : Slot}, gd (setAt L i s) i = s
  | [], 0, _ => rfl
  | [], i + 1, s => gd_setAt_same (L := []) (i := i) (s := s)
  | _ :: _, 0, _ => rfl
  | _ :: L, i + 1, s => gd_setAt_same (L := L) (i := i) (s := s)
theorem gd_setAt_ne' : ∀ {L : List Slot} {i j : Nat} {s : Slot}, j ≠ i → gd (setAt L i s) j = gd L j
  | [], 0, 0, _, h => absurd rfl h
  | [], 0, j + 1, _, _ => rfl
  | [], i + 1, 0, s, _ => rfl
  | [], i + 1, j + 1, s, h => by
    have := gd_setAt_ne' (L := []) (i := i) (j := j) (s := s) (by omega)
    simpa [setAt, gd] using this
  | _ :: _, 0, 0, _, h => absurd rfl h
  | _ :: _, 0, j + 1, _, _ => rfl
  | _ :: L, i + 1, 0, s, _ => rfl
  | _ :: L, i + 1, j + 1, s, h => by
    have := gd_setAt_ne' (L := L) (i := i) (j := j) (s := s) (by omega)
    simpa [setAt, gd] using this
@[go_sem] theorem gd_setAt_ne {L : List Slot} {i j : Nat} {s : Slot} (h : j ≠ i) : gd (setAt L i s) j = gd L j := gd_setAt_ne' h
theorem setAt_length : ∀ {L : List Slot} {i : Nat} {s : Slot}, (setAt L i s).length = max L.length (i + 1)
  | [], 0, _ => rfl
  | [], i + 1, s => by
    have := setAt_length (L := []) (i := i) (s := s)
    simp only [setAt, List.length_cons, this, List.length_nil]; omega
  | _ :: L, 0, _ => by simp only [setAt, List.length_cons]; omega
  | _ :: L, i + 1, s => by
    have := setAt_length (L := L) (i := i) (s := s)
    simp only [setAt, List.length_cons, this]; omega
@[go_sem] theorem setAt_length_lt {L : List Slot} {i : Nat} {s : Slot} (h : i < L.length) : (setAt L i s).length = L.length := by rw [setAt_length]; omega
@[go_sem] theorem setAt_length_eq {L : List Slot} {i : Nat} {s : Slot} (h : i = L.length) : (setAt L i s).length = L.length + 1 := by rw [setAt_length]; omega
@[go_sem] theorem gd_len {L : List Slot} {i : Nat} (h : L.length ≤ i) : gd L i = .free := by
  rw [gd_eq, List.getD_eq_getElem?_getD, List.getElem?_eq_none h]; rfl

@[go_sem] theorem ldn_i64s {l : List Int} : ldn (i64s l) 0 l.length = i64s l := by
  rw [ldn, List.drop_zero]; exact List.take_of_length_le (by simp [i64s])
theorem i64s_append (l l' : List Int) : i64s l ++ i64s l' = i64s (l ++ l') := by simp [i64s]
@[go_sem] theorem i64s_snoc {l : List Int} {x : Int} : i64s l ++ [.int .i64 x] = i64s (l ++ [x]) := by simp [i64s]
theorem u8s_append (l l' : List Int) : u8s l ++ u8s l' = u8s (l ++ l') := by simp [u8s]
/-! ### Results -/
theorem res_agg {P : Program} {T : List AV} {h : AHeap} {a : Tmp} {t : TypeId} {ti : TyI} {k : Nat} {cs : List Cell} {own : Bool} (ht : tyOf P t = some ti) (hg : ti.agg = true) (ha : rd T a = .c (.ptr k 0)) (hk : h.get k = .live ⟨cs, own⟩) (hl : cs.length = ti.size) : resOne P T h (.cell a t) (.agg cs) := by
  refine ⟨ti, k, 0, _, ht, ha, hk, ?_⟩
  rw [if_pos hg]
  exact ⟨by simp [hl], by simp [← hl]⟩
theorem res_one {P : Program} {T : List AV} {h : AHeap} {a : Tmp} {t : TypeId} {ti : TyI} {k : Nat} {c : Cell} {own : Bool} (ht : tyOf P t = some ti) (hg : ti.agg = false) (ha : rd T a = .c (.ptr k 0)) (hk : h.get k = .live ⟨[c], own⟩) : resOne P T h (.cell a t) (.c c) := by
  refine ⟨ti, k, 0, _, ht, ha, hk, ?_⟩
  rw [if_neg (by simp [hg])]
  exact ⟨c, rfl, rfl⟩

theorem res_aggN {P : Program} {T : List AV} {A : Heap} {N : Nat} {L : List Slot} {a : Tmp} {t : TypeId} {ti : TyI} {j : Nat} {cs : List Cell} {own : Bool} (ht : tyOf P t = some ti) (hg : ti.agg = true) (ha : rd T a = .c (.ptr (nid N j) 0)) (hk : gd L j = .live ⟨cs, own⟩) (hl : cs.length = ti.size) : resOne P T ⟨A, N, L⟩ (.cell a t) (.agg cs) :=
  res_agg ht hg ha (by rw [get_new]; exact hk) hl
theorem res_oneN {P : Program} {T : List AV} {A : Heap} {N : Nat} {L : List Slot} {a : Tmp} {t : TypeId} {ti : TyI} {j : Nat} {c : Cell} {own : Bool} (ht : tyOf P t = some ti) (hg : ti.agg = false) (ha : rd T a = .c (.ptr (nid N j) 0)) (hk : gd L j = .live ⟨[c], own⟩) : resOne P T ⟨A, N, L⟩ (.cell a t) (.c c) :=
  res_one ht hg ha (by rw [get_new]; exact hk)
attribute [go_sem] decide_true decide_false
def AV.ids1 : AV → List Nat
  | .c x => x.ids
  | .agg cs => cs.flatMap Cell.ids
  | _ => []
def AV.idsT : AV → List Nat
  | .tup vs => vs.flatMap AV.ids1
  | v => v.ids1
def ren1 (σ : Nat → Nat) : AV → AV
  | .c x => .c (x.mapIds σ)
  | .agg cs => .agg (cs.map (Cell.mapIds σ))
  | v => v
def renT (σ : Nat → Nat) : AV → AV
  | .tup vs => .tup (vs.map (ren1 σ))
  | v => ren1 σ v
def plain1 : AV → Bool
  | .tup _ => false
  | _ => true
def plainT : AV → Bool
  | .tup vs => vs.all plain1
  | _ => true
theorem Named.one {σ : Nat → Nat} {ok : Nat → Prop} {v : AV} (hp : plain1 v = true) (hi : ∀ i ∈ v.ids1, ok i) : Named σ ok v (ren1 σ v) := by
  cases v with
  | c x => exact .c hi
  | agg cs => exact .agg fun x hx i hxi => hi i (List.mem_flatMap.2 ⟨x, hx, hxi⟩)
  | tup vs => cases hp
  | any => exact .any
theorem Named.of {σ : Nat → Nat} {ok : Nat → Prop} {v : AV} (hp : plainT v = true) (hi : ∀ i ∈ v.idsT, ok i) : Named σ ok v (renT σ v) := by
  cases v with
  | tup vs =>
    refine .tup (by simp) fun i a b ha hb => ?_
    rw [List.getElem?_map, ha] at hb
    cases hb
    simp only [plainT, List.all_eq_true] at hp
    have hm := List.mem_of_getElem? ha
    exact Named.one (hp a hm) fun i hia => hi i (List.mem_flatMap.2 ⟨a, hm, hia⟩)
  | c x => exact Named.one rfl hi
  | agg cs => exact Named.one rfl hi
  | any => exact .any

section
variable {P : Program} {G : Heap} {N : Nat} {L : List Slot} {T : List AV}
/-- One new object of plain cells, named in what is handed out. -/
theorem ret_obj (hN : ∀ k, N ≤ k → G k = .free) (n j : Nat) (cs : List Cell) {rs : List ResultVar} {val : AV} (vs : List AV) (hr : resAll P T ⟨G, N, L⟩ rs vs) (hn : G n = .free) (hL : gd L j = .live ⟨cs, true⟩) (hc : Abs.flat cs)
    (hp : plainT val = true) (hi : ∀ i ∈ val.idsT, i = n) (he : resOf vs = renT (fun k => if k = n then nid N j else k) val) : retS P rs G N val [(n, .live ⟨cs, true⟩)] .ret T ⟨G, N, L⟩ := by
  refine ret_new1 hN n j cs hn hL hc vs hr ?_
  rw [he]
  exact Named.of hp hi
end
theorem NoIds.of {v : AV} (hp : plainT v = true) (hi : v.idsT = []) (ha : ∀ x ∈ (match v with | .tup vs => vs | v => [v]), x ≠ .any) : NoIds v := by
  have one : ∀ v : AV, plain1 v = true → v.ids1 = [] → v ≠ .any → NoIds v := by
    intro v h1 h2 h3
    cases v with
    | c x => exact .c h2
    | agg cs => exact .agg fun c hc => by simp only [AV.ids1, List.flatMap_eq_nil_iff] at h2; exact h2 c hc
    | tup vs => cases h1
    | any => exact absurd rfl h3
  cases v with
  | tup vs =>
    simp only [plainT, List.all_eq_true] at hp
    simp only [AV.idsT, List.flatMap_eq_nil_iff] at hi
    exact .tup fun v hv => one v (hp v hv) (hi v hv) (ha v hv)
  | c x => exact one _ rfl hi (ha _ (by simp))
  | agg cs => exact one _ rfl hi (ha _ (by simp))
  | any => exact one _ rfl hi (ha _ (by simp))
/-- Nothing but plain values. -/
theorem ret_none {P : Program} {G : Heap} {N : Nat} {L : List Slot} {T : List AV} (hN : ∀ k, N ≤ k → G k = .free) {rs : List ResultVar} {val : AV} (vs : List AV) (hr : resAll P T ⟨G, N, L⟩ rs vs) (he : resOf vs = val) (hp : plainT val = true) (hi : val.idsT = []) (ha : ∀ x ∈ (match val with | .tup vs => vs | v => [v]), x ≠ .any) :
    retS P rs G N val [] .ret T ⟨G, N, L⟩ := ret_plain' hN vs hr he (NoIds.of hp hi ha)
/-- The number that a list of written slots is new at. -/
theorem new_free {G : Heap} {n : Nat} {rs : List (Nat × AObj)} (h : (∃ ob, (n, ob) ∈ rs) ∨ G n = .free) (hk : ∀ p ∈ rs, p.1 ≠ n) : G n = .free := by
  rcases h with ⟨ob, h⟩ | h
  · exact absurd rfl (hk _ h)
  · exact h
end Go.Abs
