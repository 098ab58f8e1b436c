/- What the row needs, part 4 of 17: the texts Ad, without what it does not use. -/
import Derived.OpenShut
import Derived.ChangeArms
import Derived.Carry
import Derived.LoopN
import Derived.Test.YtcfemdhlcjmlbaaLNa
import Derived.Test.YtcfemdhlcjmlbaaLNb
import Derived.Test.YtcfemdhlcjmlbaaLNc
/- Ends, loops, slices as arguments, lists of bytes, rows. -/

/- Ends of bodies: a plain value; new objects handed out. -/
set_option linter.unusedVariables false
namespace Go.Abs
open Go.RowKit (Below)

def flat (cs : List Cell) : Prop := ∀ c ∈ cs, c.ids = []
inductive NoIds : AV → Prop
  | c {x : Cell} : x.ids = [] → NoIds (.c x)
  | agg {cs : List Cell} : flat cs → NoIds (.agg cs)
  | tup {vs : List AV} : (∀ v ∈ vs, NoIds v) → NoIds (.tup vs)

theorem mapIds_flat {σ : Nat → Nat} {c : Cell} (h : c.ids = []) : c.mapIds σ = c := by
  cases c <;> simp_all [Cell.ids, Cell.mapIds]
theorem map_flat {σ : Nat → Nat} {cs : List Cell} (h : flat cs) : cs.map (Cell.mapIds σ) = cs := by
  conv => rhs; rw [← List.map_id cs]
  exact List.map_congr_left fun c hc => mapIds_flat (h c hc)
theorem NoIds.named {σ : Nat → Nat} {ok : Nat → Prop} {v : AV} (h : NoIds v) : Named σ ok v v := by
  induction h with
  | c hx =>
    rename_i x
    have := Named.c (σ := σ) (ok := ok) (x := x) (by simp [hx])
    rwa [mapIds_flat hx] at this
  | agg hc =>
    rename_i cs
    have := Named.agg (σ := σ) (ok := ok) (cs := cs) (fun x hx i hi => by rw [hc x hx] at hi; cases hi)
    rwa [map_flat hc] at this
  | tup _ ih =>
    refine .tup rfl fun i a b ha hb => ?_
    rw [ha] at hb; cases hb
    exact ih a (List.mem_of_getElem? ha)

section
variable {P : Program} {G : Heap} {N : Nat} {L : List Slot} {T : List AV}

theorem Final.plain (hN : ∀ k, N ≤ k → G k = .free) {v : AV} (hv : NoIds v) : Final G N ⟨G, N, L⟩ v v [] id := by
  refine ⟨fun _ _ => rfl, fun k o hk => .inl ⟨hk, ?_⟩, fun k hk => hk, fun k k' o o' _ _ _ _ hne => hne, hv.named⟩
  have hlt : k < N := by
    rcases Nat.lt_or_ge k N with h | h
    · exact h
    · have := hN k h
      simp only [putsG, List.foldl_nil] at hk
      rw [this] at hk; cases hk
  rw [get_old hlt]; exact hk

/-- The body hands out a plain value and has left old memory alone. -/
theorem ret_plain (hN : ∀ k, N ≤ k → G k = .free) {rs : List ResultVar} (vs : List AV) (hr : resAll P T ⟨G, N, L⟩ rs vs) (hv : NoIds (resOf vs)) : retS P rs G N (resOf vs) [] .ret T ⟨G, N, L⟩ :=
  ⟨vs, id, hr, Final.plain hN hv⟩
theorem ret_plain' (hN : ∀ k, N ≤ k → G k = .free) {rs : List ResultVar} {val : AV} (vs : List AV) (hr : resAll P T ⟨G, N, L⟩ rs vs) (he : resOf vs = val) (hv : NoIds val) : retS P rs G N val [] .ret T ⟨G, N, L⟩ := by
  subst he; exact ret_plain hN vs hr hv
theorem ret_cell (hN : ∀ k, N ≤ k → G k = .free) {t : Tmp} {x : Cell} (ht : rd T t = .c x) (hx : x.ids = []) : retS P [.tmp t] G N (.c x) [] .ret T ⟨G, N, L⟩ :=
  ret_plain (vs := [.c x]) hN (rs := [.tmp t]) ⟨ht.symm, trivial⟩ (.c hx)

/-- New objects: by the caller's names, the places where they lie, their cells. -/
def newsW (ns : List (Nat × Nat × List Cell)) : List (Nat × Slot) := ns.map fun x => (x.1, .live ⟨x.2.2, true⟩)
def nameOf (N : Nat) : List (Nat × Nat × List Cell) → Nat → Nat
  | [], k => k
  | (n, j, _) :: ns, k => if k = n then nid N j else nameOf N ns k

theorem nameOf_out {N : Nat} : ∀ {ns : List (Nat × Nat × List Cell)} {k : Nat}, (∀ x ∈ ns, x.1 ≠ k) → nameOf N ns k = k
  | [], _, _ => rfl
  | (n, j, cs) :: ns, k, h => by
    have h1 := h (n, j, cs) (by simp)
    simp only [nameOf]
    rw [if_neg (fun e => h1 e.symm)]
    exact nameOf_out fun x hx => h x (by simp [hx])
theorem putsG_news {G : Heap} : ∀ (ns : List (Nat × Nat × List Cell)) (G : Heap) {k : Nat}, (∀ x ∈ ns, x.1 ≠ k) → putsG G (newsW ns) k = G k
  | [], _, _, _ => rfl
  | (n, j, cs) :: ns, G, k, h => by
    have h1 := h (n, j, cs) (by simp)
    show putsG (upd G n _) (newsW ns) k = G k
    rw [putsG_news (G := G) ns _ fun x hx => h x (by simp [hx]), upd_ne _ _ (fun e => h1 e.symm)]
theorem putsG_new_at : ∀ {ns : List (Nat × Nat × List Cell)} (G : Heap), (ns.map (·.1)).Nodup → ∀ x ∈ ns, putsG G (newsW ns) x.1 = .live ⟨x.2.2, true⟩ ∧ nameOf N ns x.1 = nid N x.2.1
  | [], _, _, x, hx => by cases hx
  | (n, j, cs) :: ns, G, hnd, x, hx => by
    simp only [List.map_cons, List.nodup_cons] at hnd
    rcases List.mem_cons.1 hx with rfl | hx
    · have hout : ∀ x ∈ ns, x.1 ≠ n := fun y hy e => hnd.1 (by rw [← e]; exact List.mem_map_of_mem hy)
      refine ⟨?_, by simp [nameOf]⟩
      show putsG (upd G n _) (newsW ns) n = _
      rw [putsG_news (G := G) ns _ hout, upd_same]
    · have hne : x.1 ≠ n := fun e => hnd.1 (by rw [← e]; exact List.mem_map_of_mem hx)
      obtain ⟨h1, h2⟩ := putsG_new_at (upd G n (.live ⟨cs, true⟩)) hnd.2 x hx
      exact ⟨h1, by simp only [nameOf]; rw [if_neg hne]; exact h2⟩

theorem Final.news (hN : ∀ k, N ≤ k → G k = .free) (ns : List (Nat × Nat × List Cell)) (hnd : (ns.map (·.1)).Nodup) (hjd : (ns.map (·.2.1)).Nodup) (hfree : ∀ x ∈ ns, G x.1 = .free)
    (hL : ∀ x ∈ ns, gd L x.2.1 = .live ⟨x.2.2.map (Cell.mapIds (nameOf N ns)), true⟩) (hids : ∀ x ∈ ns, ∀ c ∈ x.2.2, ∀ i ∈ c.ids, i ∈ ns.map (·.1))
    {val r : AV} (hv : Named (nameOf N ns) (fun i => i ∈ ns.map (·.1)) val r) : Final G N ⟨G, N, L⟩ r val (newsW ns) (nameOf N ns) := by
  have hnf : ∀ i ∈ ns.map (·.1), putsG G (newsW ns) i ≠ .free := by
    intro i hi
    obtain ⟨x, hx, rfl⟩ := List.mem_map.1 hi
    rw [(putsG_new_at (N := N) G hnd x hx).1]; simp
  have cases' : ∀ k, (∃ x ∈ ns, x.1 = k) ∨ ∀ x ∈ ns, x.1 ≠ k := by
    intro k
    by_cases h : ∃ x ∈ ns, x.1 = k
    · exact .inl h
    · exact .inr fun x hx e => h ⟨x, hx, e⟩
  have old : ∀ k, G k ≠ .free → ∀ x ∈ ns, x.1 ≠ k := fun k hk x hx e => hk (by rw [← e]; exact hfree x hx)
  have oldlt : ∀ k, G k ≠ .free → k < N := by
    intro k hk
    rcases Nat.lt_or_ge k N with h | h
    · exact h
    · exact absurd (hN k h) hk
  refine ⟨fun k hk => nameOf_out (old k hk), fun k o hk => ?_, fun k hk => ?_, fun k k' o o' hk hk' _ _ hne => ?_, ?_⟩
  · rcases cases' k with ⟨x, hx, rfl⟩ | hout
    · obtain ⟨h1, h2⟩ := putsG_new_at (N := N) G hnd x hx
      rw [h1] at hk
      cases hk
      right
      rw [h2, get_new]
      exact ⟨hL x hx, fun c hc i hi _ => hnf i (hids x hx c hc i hi)⟩
    · rw [putsG_news (G := G) ns G hout] at hk
      left
      exact ⟨hk, by rw [get_old (oldlt k (by rw [hk]; simp))]; exact hk⟩
  · rw [putsG_news (G := G) ns G (old k hk)]; exact hk
  · rcases cases' k with ⟨x, hx, rfl⟩ | hout <;> rcases cases' k' with ⟨x', hx', rfl⟩ | hout'
    · rw [(putsG_new_at (N := N) G hnd x hx).2, (putsG_new_at (N := N) G hnd x' hx').2]
      intro e
      have e' : x.2.1 = x'.2.1 := by unfold nid at e; omega
      -- the same place, the same entry
      have : ∀ {ns : List (Nat × Nat × List Cell)}, (ns.map (·.2.1)).Nodup → ∀ x ∈ ns, ∀ y ∈ ns, x.2.1 = y.2.1 → x = y := by
        intro ns
        induction ns with
        | nil => intro _ x hx; cases hx
        | cons z ns ih =>
          intro hd x hx y hy e
          simp only [List.map_cons, List.nodup_cons] at hd
          have m : ∀ {w : Nat × Nat × List Cell}, w ∈ ns → w.2.1 ≠ z.2.1 := fun hw e => hd.1 (by rw [← e]; exact List.mem_map_of_mem (f := fun x : Nat × Nat × List Cell => x.2.1) hw)
          rcases List.mem_cons.1 hx with hx1 | hx1 <;> rcases List.mem_cons.1 hy with hy1 | hy1
          · rw [hx1, hy1]
          · exact absurd (by rw [← e, hx1]) (m hy1)
          · exact absurd (by rw [e, hy1]) (m hx1)
          · exact ih hd.2 x hx1 y hy1 e
      exact hne (by rw [this hjd x hx x' hx' e'])
    · rw [putsG_news (G := G) ns G hout'] at hk'
      have hlt := oldlt k' (by rw [hk']; simp)
      rw [(putsG_new_at (N := N) G hnd x hx).2, nameOf_out hout']
      unfold nid; omega
    · rw [putsG_news (G := G) ns G hout] at hk
      have hlt := oldlt k (by rw [hk]; simp)
      rw [(putsG_new_at (N := N) G hnd x' hx').2, nameOf_out hout]
      unfold nid; omega
    · rw [nameOf_out hout, nameOf_out hout']; exact hne
  · have key : ∀ {x y : AV}, Named (nameOf N ns) (fun i => i ∈ ns.map (·.1)) x y → Named (nameOf N ns) (fun i => (⟨G, N, L⟩ : AHeap).get (nameOf N ns i) ≠ .free → putsG G (newsW ns) i ≠ .free) x y := by
      intro x y h
      induction h with
      | c hok => exact .c fun i hi _ => hnf i (hok i hi)
      | agg hok => exact .agg fun c hc i hi _ => hnf i (hok c hc i hi)
      | tup hl _ ih => exact .tup hl ih
      | any => exact .any
    exact key hv

theorem ret_news (hN : ∀ k, N ≤ k → G k = .free) (ns : List (Nat × Nat × List Cell)) (hnd : (ns.map (·.1)).Nodup) (hjd : (ns.map (·.2.1)).Nodup) (hfree : ∀ x ∈ ns, G x.1 = .free)
    (hL : ∀ x ∈ ns, gd L x.2.1 = .live ⟨x.2.2.map (Cell.mapIds (nameOf N ns)), true⟩) (hids : ∀ x ∈ ns, ∀ c ∈ x.2.2, ∀ i ∈ c.ids, i ∈ ns.map (·.1)) {rs : List ResultVar} {val : AV} (vs : List AV) (hr : resAll P T ⟨G, N, L⟩ rs vs)
    (hv : Named (nameOf N ns) (fun i => i ∈ ns.map (·.1)) val (resOf vs)) : retS P rs G N val (newsW ns) .ret T ⟨G, N, L⟩ :=
  ⟨vs, nameOf N ns, hr, Final.news hN ns hnd hjd hfree hL hids hv⟩

/-- One new object of plain cells. -/
theorem ret_new1 (hN : ∀ k, N ≤ k → G k = .free) (n j : Nat) (cs : List Cell) (hn : G n = .free) (hL : gd L j = .live ⟨cs, true⟩) (hc : flat cs) {rs : List ResultVar} {val : AV} (vs : List AV) (hr : resAll P T ⟨G, N, L⟩ rs vs)
    (hv : Named (nameOf N [(n, j, cs)]) (fun i => i = n) val (resOf vs)) : retS P rs G N val [(n, .live ⟨cs, true⟩)] .ret T ⟨G, N, L⟩ := by
  have h := ret_news (P := P) (T := T) (L := L) hN [(n, j, cs)] (by simp) (by simp) (by simpa using hn) (by simp only [List.mem_singleton]; rintro x rfl; rw [map_flat hc]; exact hL)
    (by simp only [List.mem_singleton]; rintro x rfl c hcc i hi; rw [hc c hcc] at hi; cases hi) (rs := rs) (val := val) vs hr (by
      have key : ∀ {x y : AV}, Named (nameOf N [(n, j, cs)]) (fun i => i = n) x y → Named (nameOf N [(n, j, cs)]) (fun i => i ∈ [(n, j, cs)].map (·.1)) x y := by
        intro x y h
        induction h with
        | c hok => exact .c fun i hi => by simpa using hok i hi
        | agg hok => exact .agg fun c hc i hi => by simpa using hok c hc i hi
        | tup hl _ ih => exact .tup hl ih
        | any => exact .any
      exact key hv)
  exact h
end
end Go.Abs



/- Loops that lay new objects, ends of rounds, slices as arguments. -/
set_option linter.unusedVariables false
namespace Go.Abs
open Go.RowKit (Below)
universe u

section
variable {P : Program} {K : Exit → List AV → AHeap → Prop} {T : List AV} {h : AHeap}

/-- A loop, its rounds seen from its start. -/
theorem awp_loop0 {c : Code} (I : Nat → List AV → AHeap → Prop) {n : Nat} (h0 : I n T h) (round : ∀ n T' h', I n T' h' → AWP P c (loopK I n h K) T' h') : AWP P (.loop c) K T h := by
  intro B μ a w ht hr
  refine wp_loopN (fun n a' w' => ∃ μ' T' h', I n T' h' ∧ μ.le μ' ∧ RepT μ' T' a' ∧ Rel B μ' h'.get w' ∧ Below B w w') ?_ (n := n) ⟨μ, T, h, h0, LMap.le_refl _, ht, hr, Below.refl _ _⟩
  rintro n a' w' ⟨μ', T', h', i1, i2, i3, i4, i5⟩
  refine wp_mono (round n T' h' i1 B μ' a' w' i3 i4) ?_
  rintro e a2 w2 ⟨μ2, T2, h2, g1, g2, g3, g4, g5⟩
  cases e with
  | normal =>
    obtain ⟨m, T3, h3, k1, k2, k3⟩ := g1
    obtain ⟨μ3, l1, l2, l3⟩ := k3 B μ μ2 w w2 a2 hr (LMap.le_trans i2 g2) g3 g4
    exact ⟨m, k1, μ3, T3, h3, k2, l1, l2, l3, i5.trans g5⟩
  | _ => exact ⟨μ2, T2, h2, g1, LMap.le_trans i2 g2, g3, g4, i5.trans g5⟩

theorem swp_loop0 {x : SCode} (I : Nat → List AV → AHeap → Prop) {n : Nat} (h0 : I n T h) (round : ∀ n T' h', I n T' h' → SWP P x (loopK I n h K) T' h') : SWP P (.loop x) K T h := by
  intro c hl
  obtain ⟨a, rfl, h1⟩ := lower_loop hl
  exact awp_loop0 I h0 fun n T h hi => round n T h hi a h1
end

theorem Weak.tle {h0 h : AHeap} {T' T'' : List AV} (hT : TLe T' T'') : Weak h0 T' h T'' h :=
  fun _ _ μ _ _ _ _ hle ht hR => ⟨μ, hle, hT.rep ht, hR⟩

/-- The names of a heap whose new slots stand elsewhere: 's': for each slot of the target its place in the source. -/
def renS (N : Nat) (s : List Nat) (k : Nat) : Nat := if k < N then k else nid N (s.getD (k - N) (k - N + s.sum + s.length))

def RenC (N : Nat) (s : List Nat) (x : Cell) : Cell := x.mapIds (renS N s)

def RenSl (N : Nat) (s : List Nat) : Slot → Slot → Prop
  | _, .dead => True
  | .live o', .live o => o' = ⟨o.cells.map (RenC N s), o.own⟩ ∧ ∀ c ∈ o.cells, ltIds (nid N s.length) c
  | _, _ => False

def RenL (N : Nat) (s0 : List Nat) (L' : List Slot) : List Nat → List Slot → Prop
  | [], [] => True
  | x :: s, t :: L'' => RenSl N s0 (gd L' x) t ∧ RenL N s0 L' s L''
  | _, _ => False

def RenV (N : Nat) (s : List Nat) : AV → AV → Prop
  | _, .any => True
  | .c y, .c x => y = RenC N s x ∧ ltIds (nid N s.length) x
  | .agg ys, .agg xs => ys = xs.map (RenC N s) ∧ ∀ x ∈ xs, ltIds (nid N s.length) x
  | _, _ => False

def RenT (N : Nat) (s : List Nat) : List AV → List AV → Prop
  | [], [] => True
  | a :: as_, b :: bs => RenV N s a b ∧ RenT N s as_ bs
  | _, _ => False

theorem RenL.length {N : Nat} {s0 : List Nat} {L' : List Slot} : ∀ {s : List Nat} {L'' : List Slot}, RenL N s0 L' s L'' → s.length = L''.length
  | [], [], _ => rfl
  | _ :: _, _ :: _, h => by simp [RenL.length h.2]
  | [], _ :: _, h => h.elim
  | _ :: _, [], h => h.elim
theorem RenL.get {N : Nat} {s0 : List Nat} {L' : List Slot} : ∀ {s : List Nat} {L'' : List Slot}, RenL N s0 L' s L'' → ∀ (j : Nat) (t : Slot), L''[j]? = some t → ∃ x, s[j]? = some x ∧ RenSl N s0 (gd L' x) t
  | [], [], _, j, t, ht => by simp at ht
  | x :: s, t :: L'', h, 0, u, hu => by simp at hu; subst hu; exact ⟨x, rfl, h.1⟩
  | x :: s, t :: L'', h, j + 1, u, hu => by simpa using RenL.get h.2 j u (by simpa using hu)
  | [], _ :: _, h, _, _, _ => h.elim
  | _ :: _, [], h, _, _, _ => h.elim
theorem RenT.length {N : Nat} {s0 : List Nat} : ∀ {as_ bs : List AV}, RenT N s0 as_ bs → as_.length = bs.length
  | [], [], _ => rfl
  | _ :: _, _ :: _, h => by simp [RenT.length h.2]
  | [], _ :: _, h => h.elim
  | _ :: _, [], h => h.elim
theorem RenT.get {N : Nat} {s0 : List Nat} : ∀ {as_ bs : List AV}, RenT N s0 as_ bs → ∀ (i : Nat) (b : AV), bs[i]? = some b → ∃ a, as_[i]? = some a ∧ RenV N s0 a b
  | [], [], _, i, b, h => by simp at h
  | a :: as_, c :: bs, hf, 0, b, h => by simp at h; subst h; exact ⟨a, rfl, hf.1⟩
  | a :: as_, c :: bs, hf, i + 1, b, h => by simpa using RenT.get hf.2 i b (by simpa using h)
  | [], _ :: _, h, _, _, _ => h.elim
  | _ :: _, [], h, _, _, _ => h.elim

/-! ### Slices as arguments -/
/-- A slice that is all of an object, or none: 'n' elements of 'es' cells each. -/
inductive Sl (es : Nat) (cells : List Cell) (n : Nat) : Cell → List (Nat × AObj) → Prop
  | nil : cells = [] → n = 0 → Sl es cells n .nils []
  | mk (k : Nat) (own : Bool) : cells.length = n * es → Sl es cells n (.slice k 0 n es) [(k, ⟨cells, own⟩)]

def i64s (l : List Int) : List Cell := l.map (Cell.int .i64)
def u8s (l : List Int) : List Cell := l.map (Cell.int .u8)
@[go_sem] theorem i64s_length (l : List Int) : (i64s l).length = l.length := by simp [i64s]
@[go_sem] theorem u8s_length (l : List Int) : (u8s l).length = l.length := by simp [u8s]
theorem flat_i64s (l : List Int) : flat (i64s l) := by
  intro c hc
  obtain ⟨x, _, rfl⟩ := List.mem_map.1 hc
  rfl
theorem flat_u8s (l : List Int) : flat (u8s l) := by
  intro c hc
  obtain ⟨x, _, rfl⟩ := List.mem_map.1 hc
  rfl
@[go_sem] theorem withCell_i64s {l : List Int} {i : Nat} {F : Cell → Prop} (h : i < l.length) : withCell (i64s l) i (.mk F) = F (.int .i64 (l.getD i 0)) :=
  withCell_eq (by simp [i64s, h])
@[go_sem] theorem withCell_u8s {l : List Int} {i : Nat} {F : Cell → Prop} (h : i < l.length) : withCell (u8s l) i (.mk F) = F (.int .u8 (l.getD i 0)) :=
  withCell_eq (by simp [u8s, h])
@[go_sem] theorem toNat_cast (n : Nat) : ((n : Int)).toNat = n := Int.toNat_natCast n
@[go_sem] theorem toNat_succ (n : Nat) : ((n : Int) + 1).toNat = n + 1 := by omega
attribute [go_sem] Nat.mul_one Nat.one_mul Nat.zero_add Nat.add_zero
theorem Sl.len {P : Program} {es : Nat} {cells : List Cell} {n : Nat} {c : Cell} {rs : List (Nat × AObj)} (h : Sl es cells n c rs) {eb : Nat} {ez : List Cell} {K : Kont} : lenE (.slice es eb ez) (.c c) (.mk K) = K (.c (.int .i64 n)) [] [] := by
  cases h with
  | nil h1 h2 => subst h2; rfl
  | mk => rfl
theorem Sl.some {es : Nat} {cells : List Cell} {n : Nat} {c : Cell} {rs : List (Nat × AObj)} (h : Sl es cells n c rs) {i : Nat} (hi : i < n) : ∃ k own, c = .slice k 0 n es ∧ rs = [(k, ⟨cells, own⟩)] ∧ cells.length = n * es := by
  cases h with
  | nil h1 h2 => omega
  | mk k own h => exact ⟨k, own, rfl, rfl, h⟩
@[go_sem] theorem rep_i64 {n : Nat} {x : Int} : (List.replicate n [Cell.int .i64 x]).flatten = i64s (List.replicate n x) := by
  simp [i64s]
@[go_sem] theorem rep_u8 {n : Nat} {x : Int} : (List.replicate n [Cell.int .u8 x]).flatten = u8s (List.replicate n x) := by
  simp [u8s]
@[go_sem] theorem splice_i64s {l : List Int} {i : Nat} {x : Int} (h : i < l.length) : splice (i64s l) i [.int .i64 x] = i64s (l.set i x) := by
  simp only [splice, i64s, List.length_cons, List.length_nil]
  rw [← List.map_take, ← List.map_drop, List.set_eq_take_append_cons_drop, if_pos h]
  simp
@[go_sem] theorem splice_u8s {l : List Int} {i : Nat} {x : Int} (h : i < l.length) : splice (u8s l) i [.int .u8 x] = u8s (l.set i x) := by
  simp only [splice, u8s, List.length_cons, List.length_nil]
  rw [← List.map_take, ← List.map_drop, List.set_eq_take_append_cons_drop, if_pos h]
  simp
attribute [go_sem] List.length_set List.length_replicate List.length_take List.length_append
end Go.Abs



/- Loops by a state, ends, calls that lay new objects. -/
namespace Go.Abs
open Go.RowKit (Below)

section
variable {P : Program} {K : Exit → List AV → AHeap → Prop} {T : List AV} {h : AHeap}

def forK {σ : Type} (S : σ → List AV) (H : σ → AHeap) (mea : σ → Nat) (Inv : σ → Prop) (h0 : AHeap) (s : σ) (K : Exit → List AV → AHeap → Prop) : Exit → List AV → AHeap → Prop
  | .normal, T', h' => ∃ s', mea s' < mea s ∧ Inv s' ∧ Weak h0 T' h' (S s') (H s')
  | e, T', h' => K e T' h'
theorem forK_exit {σ : Type} {S : σ → List AV} {H : σ → AHeap} {mea : σ → Nat} {Inv : σ → Prop} {h0 : AHeap} {s : σ} {id : Nat} (hy : K (.exit id) T h) : forK S H mea Inv h0 s K (.exit id) T h := hy
theorem forK_ret {σ : Type} {S : σ → List AV} {H : σ → AHeap} {mea : σ → Nat} {Inv : σ → Prop} {h0 : AHeap} {s : σ} (hy : K .ret T h) : forK S H mea Inv h0 s K .ret T h := hy
/-- A round's end: a poorer state. -/
theorem forK_same {σ : Type} {S : σ → List AV} {H : σ → AHeap} {mea : σ → Nat} {Inv : σ → Prop} {h0 : AHeap} {s : σ} (s' : σ) (h1 : mea s' < mea s) (h2 : Inv s') (h3 : h = H s') (h4 : TLe T (S s')) : forK S H mea Inv h0 s K .normal T h :=
  ⟨s', h1, h2, by subst h3; exact Weak.tle h4⟩
/-- A loop by a state, seen from its start. -/
theorem swp_for {σ : Type} {x : SCode} (S : σ → List AV) (H : σ → AHeap) (mea : σ → Nat) (Inv : σ → Prop) (s0 : σ) (h0 : Inv s0) (hh : h = H s0) (hT : TLe T (S s0))
    (round : ∀ s, Inv s → SWP P x (forK S H mea Inv h s K) (S s) (H s)) : SWP P (.loop x) K T h := by
  refine swp_forget hT ?_
  refine swp_loop0 (I := fun m T' h' => ∃ s, Inv s ∧ mea s = m ∧ T' = S s ∧ h' = H s) (n := mea s0) ⟨s0, h0, rfl, rfl, hh⟩ ?_
  rintro m T' h' ⟨s, hs, rfl, rfl, rfl⟩
  refine swp_mono (round s hs) fun e T2 h2 hk => ?_
  cases e with
  | normal => obtain ⟨s', g1, g2, g3⟩ := hk; exact ⟨mea s', S s', H s', g1, ⟨s', g2, rfl, rfl, rfl⟩, g3⟩
  | _ => exact hk
end

section
variable {P : Program} {G : Heap} {N : Nat} {L : List Slot} {T : List AV}
/-- The new slice that a body hands out. -/
theorem ret_slice (hN : ∀ k, N ≤ k → G k = .free) (n j : Nat) (cs : List Cell) {t : Tmp} {m es : Nat} (ht : rd T t = .c (.slice (nid N j) 0 m es)) (hn : G n = .free) (hL : gd L j = .live ⟨cs, true⟩) (hc : flat cs) :
    retS P [.tmp t] G N (.c (.slice n 0 m es)) [(n, .live ⟨cs, true⟩)] .ret T ⟨G, N, L⟩ := by
  refine ret_new1 hN n j cs hn hL hc [_] ⟨ht.symm, trivial⟩ ?_
  have := Named.c (σ := nameOf N [(n, j, cs)]) (ok := fun i => i = n) (x := .slice n 0 m es) (by simp [Cell.ids])
  simpa [Cell.mapIds, nameOf, resOf] using this
end

theorem ret_eq {P : Program} {G : Heap} {N : Nat} {L : List Slot} {T : List AV} (hN : ∀ k, N ≤ k → G k = .free) {t : Tmp} {x y : Cell} (ht : rd T t = .c x) (hx : x.ids = []) (e : x = y) : retS P [.tmp t] G N (.c y) [] .ret T ⟨G, N, L⟩ := by
  subst e; exact ret_cell hN ht hx

theorem putsG_cases : ∀ (ws : List (Nat × Slot)) (G : Heap) (k : Nat), putsG G ws k = G k ∨ ∃ p ∈ ws, p.1 = k ∧ putsG G ws k = p.2
  | [], _, _ => .inl rfl
  | (n, s) :: ws, G, k => by
    rcases putsG_cases ws (upd G n s) k with h | ⟨p, h1, h2, h3⟩
    · by_cases e : k = n
      · subst e; right; exact ⟨(k, s), by simp, rfl, by show putsG (upd G k s) ws k = s; rw [h, upd_same]⟩
      · left; show putsG (upd G n s) ws k = G k; rw [h, upd_ne _ _ e]
    · right; exact ⟨p, by simp [h1], h2, h3⟩
/-- A slice that is written through: its new cells. -/
inductive SlW (es : Nat) (cells new : List Cell) (n : Nat) : Cell → List (Nat × AObj) → List (Nat × Slot) → Prop
  | nil : cells = [] → new = [] → n = 0 → SlW es cells new n .nils [] []
  | mk (k : Nat) : cells.length = n * es → SlW es cells new n (.slice k 0 n es) [(k, ⟨cells, true⟩)] [(k, .live ⟨new, true⟩)]
theorem SlW.len {es : Nat} {cells new : List Cell} {n : Nat} {c : Cell} {rs : List (Nat × AObj)} {ws : List (Nat × Slot)} (h : SlW es cells new n c rs ws) {eb : Nat} {ez : List Cell} {K : Kont} : lenE (.slice es eb ez) (.c c) (.mk K) = K (.c (.int .i64 n)) [] [] := by
  cases h with
  | nil h1 h2 h3 => subst h3; rfl
  | mk => rfl
theorem get_rd {G : Heap} {N : Nat} {L : List Slot} {rs : List (Nat × AObj)} (hr : ∀ p ∈ rs, G p.1 = .live p.2 ∧ p.1 < N) : ∀ p ∈ rs, (⟨G, N, L⟩ : AHeap).get p.1 = .live p.2 := by
  intro p hp
  rw [get_old (hr p hp).2]; exact (hr p hp).1
theorem call_ro {P : Program} {f : FuncId} {args : List AV} {h : AHeap} {K : Kont} {val : AV} {reads : List (Nat × AObj)} (hs : FSpec P f args val reads [])
    (h1 : ∀ p ∈ reads, h.get p.1 = .live p.2) (hK : K val reads []) : vCall P f args h (.mk K) := call_intro hs h1 (by simp) hK
theorem SlW.flat {es : Nat} {cells new : List Cell} {n : Nat} {c : Cell} {rs : List (Nat × AObj)} {ws : List (Nat × Slot)} (h : SlW es cells new n c rs ws) (hf : Abs.flat new) : ∀ p ∈ ws, ∃ cs own, p.2 = .live ⟨cs, own⟩ ∧ Abs.flat cs := by
  cases h with
  | nil => simp
  | mk k h => simp only [List.mem_singleton]; rintro p rfl; exact ⟨_, _, rfl, hf⟩
theorem rd1 {A : Heap} {N : Nat} {L : List Slot} {j : Nat} {o : AObj} (h : gd L j = .live o) : ∀ p ∈ [(nid N j, o)], (⟨A, N, L⟩ : AHeap).get p.1 = .live p.2 := by
  simp only [List.mem_singleton]; rintro p rfl; rw [get_new]; exact h
theorem rd2 {A : Heap} {N : Nat} {L : List Slot} {j j' : Nat} {o o' : AObj} (h : gd L j = .live o) (h' : gd L j' = .live o') : ∀ p ∈ [(nid N j, o)] ++ [(nid N j', o')], (⟨A, N, L⟩ : AHeap).get p.1 = .live p.2 := by
  simp only [List.mem_append, List.mem_singleton]; rintro p (rfl | rfl) <;> rw [get_new]
  · exact h
  · exact h'
theorem rd0 {h : AHeap} : ∀ p ∈ ([] ++ [] : List (Nat × AObj)), h.get p.1 = .live p.2 := by simp
theorem wr1 {h : AHeap} {k : Nat} {o : AObj} {s : Slot} : ∀ p ∈ [(k, s)], (∃ ob, (p.1, ob) ∈ [(k, o)]) ∨ h.get p.1 = .free := by
  simp only [List.mem_singleton]; rintro p rfl; exact .inl ⟨o, rfl⟩
theorem call_new1 {P : Program} {f : FuncId} {args : List AV} {h : AHeap} {K : Kont} {val : Nat → AV} {rs : List (Nat × AObj)} {s : Slot}
    (hs : ∀ k, (∀ p ∈ rs, p.1 ≠ k) → FSpec P f args (val k) rs [(k, s)]) (h1 : ∀ p ∈ rs, h.get p.1 = .live p.2) (hf : h.get h.nxt = .free) (hK : K (val h.nxt) rs [(h.nxt, s)]) : vCall P f args h (.mk K) := by
  refine call_intro (hs h.nxt fun p hp e => ?_) h1 ?_ hK
  · have := h1 p hp; rw [e, hf] at this; cases this
  · intro p hp
    rw [List.mem_singleton] at hp
    subst hp
    exact .inr hf
theorem nxt_free {A : Heap} {N : Nat} {L : List Slot} : (⟨A, N, L⟩ : AHeap).get (nid N L.length) = .free := by
  rw [get_new, gd_eq, List.getD_eq_getElem?_getD, List.getElem?_eq_none (Nat.le_refl _)]; rfl
/-! ### New slots of no known number -/
@[go_sem] theorem gd_setAt_same : ∀ {L : List Slot} {i : Nat} {s : Slot}, gd (setAt L i s) i = s
  | [], 0, _ => rfl
  | [], i + 1, s => gd_setAt_same (L := []) (i := i) (s := s)
  | _ :: _, 0, _ => rfl
  | _ :: L, i + 1, s => gd_setAt_same (L := L) (i := i) (s := s)
theorem gd_setAt_ne' : ∀ {L : List Slot} {i j : Nat} {s : Slot}, j ≠ i → gd (setAt L i s) j = gd L j
  | [], 0, 0, _, h => absurd rfl h
  | [], 0, j + 1, _, _ => rfl
  | [], i + 1, 0, s, _ => rfl
  | [], i + 1, j + 1, s, h => by
    have := gd_setAt_ne' (L := []) (i := i) (j := j) (s := s) (by omega)
    simpa [setAt, gd] using this
  | _ :: _, 0, 0, _, h => absurd rfl h
  | _ :: _, 0, j + 1, _, _ => rfl
  | _ :: L, i + 1, 0, s, _ => rfl
  | _ :: L, i + 1, j + 1, s, h => by
    have := gd_setAt_ne' (L := L) (i := i) (j := j) (s := s) (by omega)
    simpa [setAt, gd] using this
@[go_sem] theorem gd_setAt_ne {L : List Slot} {i j : Nat} {s : Slot} (h : j ≠ i) : gd (setAt L i s) j = gd L j := gd_setAt_ne' h
theorem setAt_length : ∀ {L : List Slot} {i : Nat} {s : Slot}, (setAt L i s).length = max L.length (i + 1)
  | [], 0, _ => rfl
  | [], i + 1, s => by
    have := setAt_length (L := []) (i := i) (s := s)
    simp only [setAt, List.length_cons, this, List.length_nil]; omega
  | _ :: L, 0, _ => by simp only [setAt, List.length_cons]; omega
  | _ :: L, i + 1, s => by
    have := setAt_length (L := L) (i := i) (s := s)
    simp only [setAt, List.length_cons, this]; omega
@[go_sem] theorem setAt_length_lt {L : List Slot} {i : Nat} {s : Slot} (h : i < L.length) : (setAt L i s).length = L.length := by rw [setAt_length]; omega
@[go_sem] theorem setAt_length_eq {L : List Slot} {i : Nat} {s : Slot} (h : i = L.length) : (setAt L i s).length = L.length + 1 := by rw [setAt_length]; omega
@[go_sem] theorem gd_len {L : List Slot} {i : Nat} (h : L.length ≤ i) : gd L i = .free := by
  rw [gd_eq, List.getD_eq_getElem?_getD, List.getElem?_eq_none h]; rfl

@[go_sem] theorem ldn_i64s {l : List Int} : ldn (i64s l) 0 l.length = i64s l := by
  rw [ldn, List.drop_zero]; exact List.take_of_length_le (by simp [i64s])
@[go_sem] theorem i64s_snoc {l : List Int} {x : Int} : i64s l ++ [.int .i64 x] = i64s (l ++ [x]) := by simp [i64s]
theorem u8s_append (l l' : List Int) : u8s l ++ u8s l' = u8s (l ++ l') := by simp [u8s]
/-! ### Results -/
theorem res_agg {P : Program} {T : List AV} {h : AHeap} {a : Tmp} {t : TypeId} {ti : TyI} {k : Nat} {cs : List Cell} {own : Bool} (ht : tyOf P t = some ti) (hg : ti.agg = true) (ha : rd T a = .c (.ptr k 0)) (hk : h.get k = .live ⟨cs, own⟩) (hl : cs.length = ti.size) : resOne P T h (.cell a t) (.agg cs) := by
  refine ⟨ti, k, 0, _, ht, ha, hk, ?_⟩
  rw [if_pos hg]
  exact ⟨by simp [hl], by simp [← hl]⟩
theorem res_aggN {P : Program} {T : List AV} {A : Heap} {N : Nat} {L : List Slot} {a : Tmp} {t : TypeId} {ti : TyI} {j : Nat} {cs : List Cell} {own : Bool} (ht : tyOf P t = some ti) (hg : ti.agg = true) (ha : rd T a = .c (.ptr (nid N j) 0)) (hk : gd L j = .live ⟨cs, own⟩) (hl : cs.length = ti.size) : resOne P T ⟨A, N, L⟩ (.cell a t) (.agg cs) :=
  res_agg ht hg ha (by rw [get_new]; exact hk) hl
attribute [go_sem] decide_true decide_false
def AV.ids1 : AV → List Nat
  | .c x => x.ids
  | .agg cs => cs.flatMap Cell.ids
  | _ => []
def AV.idsT : AV → List Nat
  | .tup vs => vs.flatMap AV.ids1
  | v => v.ids1
def ren1 (σ : Nat → Nat) : AV → AV
  | .c x => .c (x.mapIds σ)
  | .agg cs => .agg (cs.map (Cell.mapIds σ))
  | v => v
def renT (σ : Nat → Nat) : AV → AV
  | .tup vs => .tup (vs.map (ren1 σ))
  | v => ren1 σ v
def plain1 : AV → Bool
  | .tup _ => false
  | _ => true
def plainT : AV → Bool
  | .tup vs => vs.all plain1
  | _ => true
theorem Named.one {σ : Nat → Nat} {ok : Nat → Prop} {v : AV} (hp : plain1 v = true) (hi : ∀ i ∈ v.ids1, ok i) : Named σ ok v (ren1 σ v) := by
  cases v with
  | c x => exact .c hi
  | agg cs => exact .agg fun x hx i hxi => hi i (List.mem_flatMap.2 ⟨x, hx, hxi⟩)
  | tup vs => cases hp
  | any => exact .any
theorem Named.of {σ : Nat → Nat} {ok : Nat → Prop} {v : AV} (hp : plainT v = true) (hi : ∀ i ∈ v.idsT, ok i) : Named σ ok v (renT σ v) := by
  cases v with
  | tup vs =>
    refine .tup (by simp) fun i a b ha hb => ?_
    rw [List.getElem?_map, ha] at hb
    cases hb
    simp only [plainT, List.all_eq_true] at hp
    have hm := List.mem_of_getElem? ha
    exact Named.one (hp a hm) fun i hia => hi i (List.mem_flatMap.2 ⟨a, hm, hia⟩)
  | c x => exact Named.one rfl hi
  | agg cs => exact Named.one rfl hi
  | any => exact .any

section
variable {P : Program} {G : Heap} {N : Nat} {L : List Slot} {T : List AV}
/-- One new object of plain cells, named in what is handed out. -/
theorem ret_obj (hN : ∀ k, N ≤ k → G k = .free) (n j : Nat) (cs : List Cell) {rs : List ResultVar} {val : AV} (vs : List AV) (hr : resAll P T ⟨G, N, L⟩ rs vs) (hn : G n = .free) (hL : gd L j = .live ⟨cs, true⟩) (hc : Abs.flat cs)
    (hp : plainT val = true) (hi : ∀ i ∈ val.idsT, i = n) (he : resOf vs = renT (fun k => if k = n then nid N j else k) val) : retS P rs G N val [(n, .live ⟨cs, true⟩)] .ret T ⟨G, N, L⟩ := by
  refine ret_new1 hN n j cs hn hL hc vs hr ?_
  rw [he]
  exact Named.of hp hi
end
theorem NoIds.of {v : AV} (hp : plainT v = true) (hi : v.idsT = []) (ha : ∀ x ∈ (match v with | .tup vs => vs | v => [v]), x ≠ .any) : NoIds v := by
  have one : ∀ v : AV, plain1 v = true → v.ids1 = [] → v ≠ .any → NoIds v := by
    intro v h1 h2 h3
    cases v with
    | c x => exact .c h2
    | agg cs => exact .agg fun c hc => by simp only [AV.ids1, List.flatMap_eq_nil_iff] at h2; exact h2 c hc
    | tup vs => cases h1
    | any => exact absurd rfl h3
  cases v with
  | tup vs =>
    simp only [plainT, List.all_eq_true] at hp
    simp only [AV.idsT, List.flatMap_eq_nil_iff] at hi
    exact .tup fun v hv => one v (hp v hv) (hi v hv) (ha v hv)
  | c x => exact one _ rfl hi (ha _ (by simp))
  | agg cs => exact one _ rfl hi (ha _ (by simp))
  | any => exact one _ rfl hi (ha _ (by simp))
/-- Nothing but plain values. -/
theorem ret_none {P : Program} {G : Heap} {N : Nat} {L : List Slot} {T : List AV} (hN : ∀ k, N ≤ k → G k = .free) {rs : List ResultVar} {val : AV} (vs : List AV) (hr : resAll P T ⟨G, N, L⟩ rs vs) (he : resOf vs = val) (hp : plainT val = true) (hi : val.idsT = []) (ha : ∀ x ∈ (match val with | .tup vs => vs | v => [v]), x ≠ .any) :
    retS P rs G N val [] .ret T ⟨G, N, L⟩ := ret_plain' hN vs hr he (NoIds.of hp hi ha)
/-- The number that a list of written slots is new at. -/
theorem new_free {G : Heap} {n : Nat} {rs : List (Nat × AObj)} (h : (∃ ob, (n, ob) ∈ rs) ∨ G n = .free) (hk : ∀ p ∈ rs, p.1 ≠ n) : G n = .free := by
  rcases h with ⟨ob, h⟩ | h
  · exact absurd rfl (hk _ h)
  · exact h
end Go.Abs



/- From a contract to a walk. -/
namespace Go.Abs
open Go.RowKit (Below)

/-- A law's contract, run: it returns true and leaves what was there alone. -/
theorem FSpec.run {P : Program} {f : FuncId} {args : List AV} {reads : List (Nat × AObj)} (h : FSpec P f args (.c (.bool true)) reads []) {μ : LMap} {G : Heap} {w : World} {vs : List Value} (hR : Rel w.heap.size μ G w) (hfin : ∃ M, ∀ k, M ≤ k → G k = .free)
    (hreads : ∀ p ∈ reads, G p.1 = .live p.2) (ha : RepVs μ args vs) : Calls P f vs.toArray w fun e w' => e = .returned (.bool true) ∧ Below w.heap.size w w' := by
  refine (h.2 w.heap.size μ G w vs hR hfin hreads (by simp) ha).mono fun e w' hk => ?_
  obtain ⟨v, μ', rfl, _, hv, _, hb⟩ := hk
  refine ⟨?_, hb⟩
  cases hv with
  | c hc => simp only [RepC] at hc; rw [hc]

theorem Rel.empty (w : World) : Rel w.heap.size (fun _ => none) (fun _ => .free) w :=
  { free := fun _ _ => rfl
    obj := fun _ _ h => Slot.noConfusion h
    inj := fun _ _ _ _ _ _ h => Slot.noConfusion h
    size := Nat.le_refl _ }

theorem RepVs.nil {μ : LMap} : RepVs μ [] [] := trivial
theorem RepVs.int {μ : LMap} {k : IntKind} {n : Int} {as_ : List AV} {vs : List Value} (h : RepVs μ as_ vs) : RepVs μ (.c (.int k n) :: as_) (.int k n :: vs) := ⟨.c rfl, h⟩
end Go.Abs



/- Lists of bytes within objects. -/
namespace Go.Abs

def sub (l : List Int) (off n : Nat) : List Int := (l.drop off).take n
theorem sub_length {l : List Int} {off n : Nat} (h : off + n ≤ l.length) : (sub l off n).length = n := by simp [sub]; omega
@[go_sem] theorem ldn_u8s {l : List Int} {off n : Nat} : ldn (u8s l) off n = u8s (sub l off n) := by simp [ldn, u8s, sub, List.map_take, List.map_drop]
theorem sub_getD {l : List Int} {off n j : Nat} (h : j < n) : (sub l off n).getD j 0 = l.getD (off + j) 0 := by
  simp only [sub, List.getD_eq_getElem?_getD, List.getElem?_take, List.getElem?_drop, h, if_true]
theorem take_sub {l : List Int} {off n : Nat} : l.take (off + n) = l.take off ++ sub l off n := by
  rw [sub, List.take_add]
theorem take_sub_eq {a b : List Int} {off n : Nat} (h : a.take off = b.take off) (hs : sub a off n = sub b off n) : a.take (off + n) = b.take (off + n) := by
  rw [take_sub, take_sub, h, hs]
theorem Sl.of8 {es k n : Nat} {own : Bool} {l : List Int} (h : l.length = n * es) : Sl es (u8s l) n (.slice k 0 n es) [(k, ⟨u8s l, own⟩)] := Sl.mk k own (by simp [u8s, h])
theorem Sl.nil8 {es : Nat} : Sl es (u8s []) 0 .nils [] := Sl.nil rfl rfl
theorem SlW.of8 {es k n : Nat} {l l' : List Int} (h : l.length = n * es) : SlW es (u8s l) (u8s l') n (.slice k 0 n es) [(k, ⟨u8s l, true⟩)] [(k, .live ⟨u8s l', true⟩)] := SlW.mk k (by simp [u8s, h])
theorem SlW.nil8 {es : Nat} : SlW es (u8s []) (u8s []) 0 .nils [] [] := SlW.nil rfl rfl rfl
attribute [go_sem] true_and and_true
def zeros (n : Nat) : List Int := List.replicate n 0
@[go_sem] theorem zeros_length (n : Nat) : (zeros n).length = n := by simp [zeros]
/-- A list with a part written anew. -/
def putL (o : List Int) (i : Nat) : List Int → List Int
  | [] => o
  | x :: v => putL (o.set i x) (i + 1) v
@[go_sem] theorem putL_len : ∀ {v o : List Int} {i : Nat}, (putL o i v).length = o.length
  | [], _, _ => rfl
  | x :: v, o, i => by rw [putL, putL_len, List.length_set]
theorem putL_eq : ∀ {v o : List Int} {i : Nat}, i + v.length ≤ o.length → putL o i v = o.take i ++ v ++ o.drop (i + v.length)
  | [], o, i, _ => by simp [putL]
  | x :: v, o, i, h => by
    simp only [List.length_cons] at h
    rw [putL, putL_eq (by rw [List.length_set]; omega), List.take_succ_eq_append_getElem (by rw [List.length_set]; omega)]
    simp only [List.getElem_set_self, List.length_cons]
    rw [List.drop_set_of_lt (by omega), show i + 1 + v.length = i + (v.length + 1) from by omega, List.take_set_of_le (Nat.le_refl i)]
    simp
@[go_sem] theorem splice_putL {o v : List Int} {i : Nat} (h : i + v.length ≤ o.length) : splice (u8s o) i (u8s v) = u8s (putL o i v) := by
  rw [putL_eq h]
  simp [splice, u8s, List.map_take, List.map_drop]
@[go_sem] theorem u8s_app (l l' : List Int) : u8s l ++ u8s l' = u8s (l ++ l') := u8s_append l l'
@[go_sem] theorem rep_zeros (n m : Nat) : (List.replicate n (u8s (zeros m))).flatten = u8s (zeros (n * m)) := by
  induction n with
  | zero => simp [zeros, u8s]
  | succ n ih =>
    rw [List.replicate_succ, List.flatten_cons, ih, u8s_append]
    congr 1
    simp only [zeros, List.replicate_append_replicate, Nat.succ_mul]
    rw [Nat.add_comm]
end Go.Abs



/- Arguments that hold slices, opened: an abstract heap of objects that are only read. -/
namespace Go.Abs
open Go.RowKit (Below)
set_option linter.unusedVariables false

def flS (r : TypeId → Option (List TypeId)) (sz : TypeId → Nat) : Nat → List Field → Option (List TypeId)
  | _, [] => some []
  | off, f :: fs => match r f.type with
    | some ts => if f.offset = off ∧ ts.length = sz f.type then (flS r sz (off + ts.length) fs).map (ts ++ ·) else none
    | none => none
/-- The types of the cells of a value, for what is laid out one after the other. -/
def fl (P : Program) : Nat → TypeId → Option (List TypeId)
  | 0, _ => none
  | d + 1, t => match P.underlying t with
    | some (.struct fs) => match flS (fl P d) P.cellsOf 0 fs.toList with
      | some ts => if ts.length = P.cellsOf t then some ts else none
      | none => none
    | some (.array n e) => match fl P d e with
      | some ts => if ts.length = P.cellsOf e ∧ n * ts.length = P.cellsOf t then some (List.replicate n ts).flatten else none
      | none => none
    | some (.int _) => some [t]
    | some .bool => some [t]
    | some .string => some [t]
    | some (.slice _) => some [t]
    | _ => none

section
variable {H : Type} {enc : TypeId × Value → H} {P : Program} {w : World}
/-- A cell that can be read as of a type. -/
def Rd1 (enc : TypeId × Value → H) (P : Program) (w : World) (u : TypeId) (v : Value) : Prop := ∃ m y, DataW.trod enc P w 0 (fun _ => true) true m u [v] = some y

theorem rep_get {α : Type} (ts : List α) : ∀ (n i : Nat) (u : α), (List.replicate n ts).flatten[i]? = some u → ∃ q r, q < n ∧ i = q * ts.length + r ∧ r < ts.length ∧ ts[r]? = some u
  | 0, i, u, h => by simp at h
  | n + 1, i, u, h => by
    rw [List.replicate_succ, List.flatten_cons] at h
    by_cases hi : i < ts.length
    · rw [List.getElem?_append_left hi] at h
      exact ⟨0, i, by omega, by omega, hi, h⟩
    · rw [List.getElem?_append_right (by omega)] at h
      obtain ⟨q, r, h1, h2, h3, h4⟩ := rep_get ts n _ u h
      exact ⟨q + 1, r, by omega, by rw [Nat.succ_mul]; omega, h3, h4⟩

theorem flS_read {r : TypeId → Option (List TypeId)} {cs : List Value} (hr : ∀ (t : TypeId) (ts : List TypeId), r t = some ts → ∀ {fuel : Nat} {ds : List Value} {x}, DataW.trod enc P w 0 (fun _ => true) true fuel t ds = some x → ds.length = ts.length ∧ ∀ (i : Nat) (u : TypeId), ts[i]? = some u → ∃ v, ds[i]? = some v ∧ Rd1 enc P w u v) :
    ∀ (fs : List Field) (off : Nat) (ts : List TypeId), flS r P.cellsOf off fs = some ts → (∀ f ∈ fs, ∃ m y, DataW.trod enc P w 0 (fun _ => true) true m f.type ((cs.drop f.offset).take (P.cellsOf f.type)) = some y) →
      ∀ (i : Nat) (u : TypeId), ts[i]? = some u → ∃ v, cs[off + i]? = some v ∧ Rd1 enc P w u v
  | [], off, ts, h, _, i, u, hu => by simp [flS] at h; subst h; simp at hu
  | f :: fs, off, ts, h, hf, i, u, hu => by
    simp only [flS] at h
    split at h
    · rename_i us hus
      split at h
      · rename_i hc
        rw [Option.map_eq_some_iff] at h
        obtain ⟨rest, hrest, rfl⟩ := h
        obtain ⟨m, y, hy⟩ := hf f (by simp)
        have h1 := hr _ _ hus hy
        by_cases hi : i < us.length
        · rw [List.getElem?_append_left hi] at hu
          obtain ⟨v, hv, hR⟩ := h1.2 i u hu
          refine ⟨v, ?_, hR⟩
          rw [List.getElem?_take_of_lt (by omega), List.getElem?_drop, hc.1] at hv
          exact hv
        · rw [List.getElem?_append_right (by omega)] at hu
          obtain ⟨v, hv, hR⟩ := flS_read hr fs _ rest hrest (fun g hg => hf g (by simp [hg])) _ u hu
          refine ⟨v, ?_, hR⟩
          rw [← hv]
          congr 1
          omega
      · cases h
    · cases h

theorem trod_fl : ∀ (d : Nat) (t : TypeId) (ts : List TypeId), fl P d t = some ts → ∀ {fuel : Nat} {cs : List Value} {x}, DataW.trod enc P w 0 (fun _ => true) true fuel t cs = some x →
    cs.length = ts.length ∧ ∀ (i : Nat) (u : TypeId), ts[i]? = some u → ∃ v, cs[i]? = some v ∧ Rd1 enc P w u v
  | 0, t, ts, h, _, _, _, _ => by cases h
  | d + 1, t, ts, h, fuel, cs, x, hx => by
    have one : ∀ {v : Value}, ts = [t] → cs = [v] → cs.length = ts.length ∧ ∀ (i : Nat) (u : TypeId), ts[i]? = some u → ∃ v, cs[i]? = some v ∧ Rd1 enc P w u v := by
      rintro v rfl rfl
      refine ⟨rfl, fun i u hu => ?_⟩
      match i, hu with
      | 0, hu => simp at hu; subst hu; exact ⟨v, rfl, _, _, hx⟩
      | i + 1, hu => simp at hu
    simp only [fl] at h
    split at h
    · rename_i fs hut
      split at h
      · rename_i us hus
        split at h
        · rename_i hlen
          cases h
          obtain ⟨xs, n, rfl, rfl, hl, hn, hf⟩ := DataW.trod_struct hut hx
          refine ⟨by omega, fun i u hu => ?_⟩
          have := flS_read (cs := cs) (fun t ts h => trod_fl d t ts h) fs.toList 0 ts hus (fun f hfm => ?_) i u hu
          · simpa using this
          · obtain ⟨j, hj⟩ := List.getElem?_of_mem hfm
            have hj' : fs[j]? = some f := by simpa using hj
            have hlt : j < xs.length := by rw [hn]; exact (Array.getElem?_eq_some_iff.1 hj').1
            exact ⟨n, xs[j], (hf j f hj').trans (List.getElem?_eq_getElem hlt)⟩
        · cases h
      · cases h
    · rename_i n e hut
      split at h
      · rename_i us hus
        split at h
        · rename_i hlen
          cases h
          obtain ⟨xs, m, rfl, rfl, hl, hn, hf⟩ := DataW.trod_array hut hx
          refine ⟨by simp [hl, hlen.2], fun i u hu => ?_⟩
          obtain ⟨q, r, h1, rfl, h3, h4⟩ := rep_get us n i u hu
          have h5 := hf q h1
          rw [List.getElem?_eq_getElem (by omega)] at h5
          obtain ⟨v, hv, hR⟩ := (trod_fl d e us hus h5).2 r u h4
          refine ⟨v, ?_, hR⟩
          rw [List.getElem?_take_of_lt (by omega), List.getElem?_drop] at hv
          rw [hlen.1]
          exact hv
        · cases h
      · cases h
    · rename_i k hut
      obtain ⟨n, rfl, _⟩ := DataW.trod_int hut hx
      exact one (by simpa using h.symm) rfl
    · rename_i hut
      have : ∃ b, cs = [.bool b] := by
        cases fuel with
        | zero => simp [DataW.trod] at hx
        | succ n =>
          unfold DataW.trod at hx
          rw [hut] at hx
          split at hx <;> simp_all
      obtain ⟨b, rfl⟩ := this
      exact one (by simpa using h.symm) rfl
    · rename_i hut
      obtain ⟨s, rfl, _⟩ := DataW.trod_string hut hx
      exact one (by simpa using h.symm) rfl
    · rename_i e hut
      rcases DataW.trod_slice hut hx with ⟨rfl, _⟩ | ⟨a, len, cap, _, _, _, _, rfl, _⟩
      · exact one (by simpa using h.symm) rfl
      · exact one (by simpa using h.symm) rfl
    · cases h

/-- The types whose cells are opened: numbers, truth values, texts, slices of such. -/
def good (P : Program) : Nat → TypeId → Bool
  | 0, _ => false
  | d + 1, u => match P.underlying u with
    | some (.int _) => true
    | some .bool => true
    | some .string => true
    | some (.slice e) => match fl P 10 e with
      | some ts => decide (0 < ts.length) && decide (ts.length = P.cellsOf e) && ts.all (good P d)
      | none => false
    | _ => false

/-- A cell holds what its type says. -/
def OkC (P : Program) (G : Heap) : Nat → TypeId → Cell → Prop
  | 0, _, _ => False
  | d + 1, u, c => match P.underlying u with
    | some (.int k) => ∃ n, c = .int k n ∧ (Lit.int k n).wf = true
    | some .bool => ∃ b, c = .bool b
    | some .string => ∃ s : ByteArray, c = .str s ∧ s.size ≤ maxLen
    | some (.slice e) => c = .nils ∨ ∃ k len cells ts, c = .slice k 0 len (P.cellsOf e) ∧ G k = .live ⟨cells, false⟩ ∧ len ≤ maxLen ∧ fl P 10 e = some ts ∧ ts.length = P.cellsOf e ∧ cells.length = len * P.cellsOf e ∧
        ∀ i j x, i < len → ∀ u', ts[j]? = some u' → cells[i * P.cellsOf e + j]? = some x → OkC P G d u' x
    | _ => False

def HLe (G G' : Heap) : Prop := ∀ k o, G k = .live o → G' k = .live o
theorem HLe.refl (G : Heap) : HLe G G := fun _ _ h => h
theorem HLe.trans {A B C : Heap} (h : HLe A B) (h' : HLe B C) : HLe A C := fun k o e => h' k o (h k o e)

theorem OkC.mono {G G' : Heap} (h : HLe G G') : ∀ (d : Nat) (u : TypeId) (c : Cell), OkC P G d u c → OkC P G' d u c
  | 0, _, _, h0 => h0
  | d + 1, u, c, h0 => by
    simp only [OkC] at h0 ⊢
    split at h0
    · exact h0
    · exact h0
    · exact h0
    · rcases h0 with rfl | ⟨k, len, cells, ts, h1, h2, h3, h4, h5, h6, h7⟩
      · exact .inl rfl
      · exact .inr ⟨k, len, cells, ts, h1, h _ _ h2, h3, h4, h5, h6, fun i j x hi u' hu' hx => OkC.mono h d u' x (h7 i j x hi u' hu' hx)⟩
    · exact h0

theorem add_add (a : Addr) (m n : Nat) : (a.add m).add n = a.add (m + n) := by
  unfold Addr.add
  split <;> split <;> split <;> simp_all <;> omega

theorem cell_inv {a : Addr} {v : Value} (h : w.cell? a = some v) : ∃ c elem fz, w.heap[a.block]? = some (.cells c elem fz) ∧ a.spot = none ∧ c[a.off]? = some v := by
  unfold World.cell? at h
  split at h
  · rename_i c elem fz hb
    split at h
    · cases h
    · rename_i hs
      exact ⟨c, elem, fz, hb, by simpa using hs, h⟩
  · cases h
theorem cell_add {a : Addr} {q : Nat} {v : Value} (hs : a.spot = none) (h : w.cell? (a.add q) = some v) : ∃ c elem fz, w.heap[a.block]? = some (.cells c elem fz) ∧ c[a.off + q]? = some v := by
  obtain ⟨c, elem, fz, h1, h2, h3⟩ := cell_inv h
  unfold Addr.add at h1 h3
  split at h1
  · subst_vars; exact ⟨c, elem, fz, h1, by simpa using h3⟩
  · rename_i hq
    rw [if_neg hq] at h3
    exact ⟨c, elem, fz, h1, h3⟩

/-- What opening gives. -/
def Opened (P : Program) (w : World) (μ : LMap) (G : Heap) (Q : LMap → Heap → Prop) : Prop :=
  ∃ μ' G', μ.le μ' ∧ HLe G G' ∧ Rel w.heap.size μ' G' w ∧ (∃ M, ∀ k, M ≤ k → G' k = .free) ∧ Q μ' G'

theorem openMany {d : Nat} (hone : ∀ u v, good P d u = true → Rd1 enc P w u v → ∀ μ G, Rel w.heap.size μ G w → (∃ M, ∀ k, M ≤ k → G k = .free) → Opened P w μ G fun μ' G' => ∃ x, OkC P G' d u x ∧ RepC μ' x v) :
    ∀ (us : List TypeId) (vs : List Value), us.length = vs.length → (∀ (i : Nat) (u : TypeId) (v : Value), us[i]? = some u → vs[i]? = some v → good P d u = true ∧ Rd1 enc P w u v) → ∀ μ G, Rel w.heap.size μ G w → (∃ M, ∀ k, M ≤ k → G k = .free) →
      Opened P w μ G fun μ' G' => ∃ xs : List Cell, xs.length = us.length ∧ (∀ (i : Nat) (u : TypeId) (x : Cell), us[i]? = some u → xs[i]? = some x → OkC P G' d u x) ∧ RepCs μ' xs vs
  | [], [], _, _, μ, G, hR, hM => ⟨μ, G, LMap.le_refl μ, HLe.refl G, hR, hM, [], rfl, by simp, trivial⟩
  | u :: us, v :: vs, hl, h, μ, G, hR, hM => by
    have h0 := h 0 u v rfl rfl
    obtain ⟨μ1, G1, l1, g1, R1, M1, x, o1, p1⟩ := hone u v h0.1 h0.2 μ G hR hM
    obtain ⟨μ2, G2, l2, g2, R2, M2, xs, o2, o3, p2⟩ := openMany hone us vs (by simpa using hl) (fun i u v hu hv => h (i + 1) u v (by simpa using hu) (by simpa using hv)) μ1 G1 R1 M1
    refine ⟨μ2, G2, LMap.le_trans l1 l2, g1.trans g2, R2, M2, x :: xs, by simp [o2], ?_, p1.mono l2, p2⟩
    intro i u' x' hu hx
    match i, hu, hx with
    | 0, hu, hx => simp at hu hx; subst hu; subst hx; exact OkC.mono g2 _ _ _ o1
    | i + 1, hu, hx => exact o3 i u' x' (by simpa using hu) (by simpa using hx)
  | [], _ :: _, h, _, _, _, _, _ => by simp at h
  | _ :: _, [], h, _, _, _, _, _ => by simp at h

/-- One object more that is only read. -/
theorem Rel.read {B : Nat} {μ : LMap} {A : Heap} {w : World} (h : Rel B μ A w) {k : Nat} (hk : A k = .free) {l : Loc} {cells : List Cell} (ho : ObjAt μ B w l ⟨cells, false⟩) : Rel B (upd μ k (some l)) (upd A k (.live ⟨cells, false⟩)) w := by
  have hμ := h.free k hk
  have hle := LMap.le_upd (l := l) hμ
  refine ⟨fun j hj => ?_, fun j o hj => ?_, fun j j' o o' l1 l2 hj hj' e1 e2 h1 h2 r1 r2 hne => ?_, h.size⟩
  · by_cases e : j = k
    · subst e; simp at hj
    · rw [upd_ne _ _ e] at hj ⊢; exact h.free j hj
  · by_cases e : j = k
    · subst e
      simp at hj
      subst hj
      exact ⟨l, by simp, ho.mono hle (fun _ => rfl)⟩
    · rw [upd_ne _ _ e] at hj ⊢
      obtain ⟨l', h1, h2⟩ := h.obj j o hj
      exact ⟨l', h1, h2.mono hle (fun _ => rfl)⟩
  · by_cases e : j = k
    · subst e; simp at hj; subst hj; cases e1
    · by_cases e' : j' = k
      · subst e'; simp at hj'; subst hj'; cases e2
      · rw [upd_ne _ _ e] at hj h1
        rw [upd_ne _ _ e'] at hj' h2
        exact h.inj j j' o o' l1 l2 hj hj' e1 e2 h1 h2 r1 r2 hne
theorem HLe_upd {A : Heap} {k : Nat} {s : Slot} (hk : A k = .free) : HLe A (upd A k s) := by
  intro j o hj
  by_cases e : j = k
  · subst e; rw [hk] at hj; cases hj
  · rw [upd_ne _ _ e]; exact hj

theorem open1 : ∀ (d : Nat) (u : TypeId) (v : Value), good P d u = true → Rd1 enc P w u v → ∀ μ G, Rel w.heap.size μ G w → (∃ M, ∀ k, M ≤ k → G k = .free) → Opened P w μ G fun μ' G' => ∃ x, OkC P G' d u x ∧ RepC μ' x v
  | 0, _, _, h, _, _, _, _, _ => by cases h
  | d + 1, u, v, hg, ⟨m, y, hy⟩, μ, G, hR, hM => by
    have stay : ∀ x, OkC P G (d + 1) u x → RepC μ x v → Opened P w μ G fun μ' G' => ∃ x, OkC P G' (d + 1) u x ∧ RepC μ' x v := fun x h1 h2 => ⟨μ, G, LMap.le_refl μ, HLe.refl G, hR, hM, x, h1, h2⟩
    simp only [good] at hg
    split at hg
    · rename_i k hu
      obtain ⟨n, hn, _, hw⟩ := DataW.trod_int hu hy
      simp at hn; subst hn
      exact stay (.int k n) (by simp only [OkC, hu]; exact ⟨n, rfl, hw⟩) rfl
    · rename_i hu
      have : ∃ b, v = .bool b := by
        cases m with
        | zero => simp [DataW.trod] at hy
        | succ n =>
          unfold DataW.trod at hy
          rw [hu] at hy
          split at hy <;> simp_all
      obtain ⟨b, rfl⟩ := this
      exact stay (.bool b) (by simp only [OkC, hu]; exact ⟨b, rfl⟩) rfl
    · rename_i hu
      obtain ⟨s, hs, _, hw⟩ := DataW.trod_string hu hy
      simp at hs; subst hs
      exact stay (.str s) (by simp only [OkC, hu]; exact ⟨s, rfl, hw⟩) rfl
    · rename_i e hu
      split at hg
      · rename_i ts hts
        simp only [Bool.and_eq_true, decide_eq_true_eq] at hg
        obtain ⟨⟨h0, hc⟩, hall⟩ := hg
        rcases DataW.trod_slice hu hy with ⟨hv, _⟩ | ⟨a, len, cap, elems, rest, n, _, hv, _, _, hle, hmax, hlen, hel, hsp, _⟩
        · simp at hv; subst hv
          exact stay .nils (by simp only [OkC, hu]; exact .inl trivial) rfl
        · simp at hv; subst hv
          have hsp := hsp rfl
          -- each place can be read
          have each : ∀ i, i < cap → ∀ j u', ts[j]? = some u' → ∃ v', w.cell? (a.add (i * P.cellsOf e + j)) = some v' ∧ Rd1 enc P w u' v' := by
            intro i hi j u' hu'
            have hb : ∃ y, (w.cells? 0 (a.add (i * P.cellsOf e)) (P.cellsOf e)).bind (DataW.trod enc P w 0 (fun _ => true) true n e) = some y := by
              by_cases hi' : i < len
              · exact ⟨elems[i], by rw [hel i hi', List.getElem?_eq_getElem]⟩
              · have := hsp.2 (i - len) (by omega)
                rw [show len + (i - len) = i by omega] at this
                exact ⟨rest[i - len]'(by omega), by rw [this, List.getElem?_eq_getElem]⟩
            obtain ⟨y', hy'⟩ := hb
            rw [Option.bind_eq_some_iff] at hy'
            obtain ⟨cs', hcs, ht⟩ := hy'
            obtain ⟨v', hv', hR'⟩ := (trod_fl 10 e ts hts ht).2 j u' hu'
            have hj : j < P.cellsOf e := by rw [← hc]; exact (List.getElem?_eq_some_iff.1 hu').1
            refine ⟨v', ?_, hR'⟩
            rw [← add_add, (World.cells?_some hcs).2.2 j hj, hv']
          obtain ⟨M, hM'⟩ := hM
          have hfree := hM' M (Nat.le_refl _)
          by_cases hcap : cap = 0
          · have hl0 : len = 0 := by omega
            subst hcap; subst hl0
            refine ⟨_, _, LMap.le_upd (hR.free _ hfree), HLe_upd hfree, hR.read hfree (l := ⟨0, 0, 0, false⟩) (cells := []) (by simp [ObjAt]), ⟨M + 1, fun k hk => by rw [upd_ne _ _ (by omega)]; exact hM' k (by omega)⟩, .slice M 0 0 (P.cellsOf e), ?_, ?_⟩
            · simp only [OkC, hu]
              exact .inr ⟨M, 0, [], ts, rfl, by simp, Nat.zero_le _, hts, hc, by simp, fun i _ _ hi => by omega⟩
            · exact ⟨⟨0, 0, 0, false⟩, some a, 0, by simp, rfl, Nat.le_refl _, .inl ⟨rfl, rfl⟩⟩
          · -- the block
            have hfirst := each 0 (by omega) 0 ts[0] (List.getElem?_eq_getElem h0)
            obtain ⟨v0, hv0, _⟩ := hfirst
            have hv0' : w.cell? a = some v0 := by simpa [Addr.add] using hv0
            obtain ⟨c, elem, fz, hblk, hspot, _⟩ := cell_inv hv0'
            have hcell : ∀ i, i < cap → ∀ j u', ts[j]? = some u' → ∃ v', c[a.off + (i * P.cellsOf e + j)]? = some v' ∧ Rd1 enc P w u' v' := by
              intro i hi j u' hu'
              obtain ⟨v', h1, h2⟩ := each i hi j u' hu'
              obtain ⟨c', _, _, h3, h4⟩ := cell_add hspot h1
              rw [hblk] at h3
              cases h3
              exact ⟨v', h4, h2⟩
            have hbound : a.off + cap * P.cellsOf e ≤ c.size := by
              obtain ⟨v', h1, _⟩ := hcell (cap - 1) (by omega) (ts.length - 1) (ts[ts.length - 1]'(by omega)) (List.getElem?_eq_getElem _)
              have := (Array.getElem?_eq_some_iff.1 h1).1
              have e1 : cap * P.cellsOf e = (cap - 1) * P.cellsOf e + P.cellsOf e := by
                rw [← Nat.succ_mul]; congr 1; omega
              omega
            have hblt : a.block < w.heap.size := (Array.getElem?_eq_some_iff.1 hblk).1
            -- the elements' cells
            have hpos : 0 < P.cellsOf e := by omega
            have hq : ∀ q, q < len * P.cellsOf e → ∃ u' v', (List.replicate len ts).flatten[q]? = some u' ∧ c[a.off + q]? = some v' ∧ Rd1 enc P w u' v' ∧ good P d u' = true := by
              intro q hq
              have hlt : q < (List.replicate len ts).flatten.length := by simp [hc]; exact hq
              obtain ⟨i, j, h1, h2, h3, h4⟩ := rep_get ts len q _ (List.getElem?_eq_getElem hlt)
              obtain ⟨v', h5, h6⟩ := hcell i (by omega) j _ h4
              refine ⟨_, v', List.getElem?_eq_getElem hlt, by rw [h2, hc]; exact h5, h6, ?_⟩
              exact List.all_eq_true.1 hall _ (List.mem_of_getElem? h4)
            have hsize : a.off + len * P.cellsOf e ≤ c.size := Nat.le_trans (Nat.add_le_add_left (Nat.mul_le_mul_right _ hle) _) hbound
            let vs := (c.toList.drop a.off).take (len * P.cellsOf e)
            have hvs : ∀ q, q < len * P.cellsOf e → vs[q]? = c[a.off + q]? := by
              intro q hq
              simp only [vs]
              rw [List.getElem?_take_of_lt hq, List.getElem?_drop, Array.getElem?_toList]
            have hvl : vs.length = len * P.cellsOf e := by simp only [vs, List.length_take, List.length_drop, Array.length_toList]; omega
            obtain ⟨μ1, G1, l1, g1, R1, ⟨M1, hM1⟩, xs, o1, o2, p1⟩ := openMany (open1 d) (List.replicate len ts).flatten vs (by simp [hvl, hc]) (fun i u' v' hu' hv' => by
              have hi : i < len * P.cellsOf e := by rw [← hvl]; exact (List.getElem?_eq_some_iff.1 hv').1
              obtain ⟨u2, v2, h1, h2, h3, h4⟩ := hq i hi
              rw [hu'] at h1; cases h1
              rw [hvs i hi, h2] at hv'; cases hv'
              exact ⟨h4, h3⟩) μ G hR ⟨M, hM'⟩
            have hxl : xs.length = len * P.cellsOf e := by rw [o1]; simp [hc]
            have hfree1 := hM1 M1 (Nat.le_refl _)
            refine ⟨_, _, LMap.le_trans l1 (LMap.le_upd (R1.free _ hfree1)), g1.trans (HLe_upd hfree1), R1.read hfree1 (l := ⟨a.block, a.off, c.size, true⟩) (cells := xs) ?_, ⟨M1 + 1, fun k hk => by rw [upd_ne _ _ (by omega)]; exact hM1 k (by omega)⟩, .slice M1 0 len (P.cellsOf e), ?_, ?_⟩
            · simp only [ObjAt, if_true]
              refine ⟨c, elem, fz, hblk, rfl, fun j x hx => ?_, by simpa using hblt⟩
              obtain ⟨v', h1, h2⟩ := p1.get j x hx
              have hj : j < len * P.cellsOf e := by rw [← hvl]; exact (List.getElem?_eq_some_iff.1 h1).1
              exact ⟨v', by rw [← hvs j hj]; exact h1, h2⟩
            · simp only [OkC, hu]
              refine .inr ⟨M1, len, xs, ts, rfl, by simp, by omega, hts, hc, hxl, fun i j x hi u' hu' hx => ?_⟩
              refine OkC.mono (HLe_upd hfree1) _ _ _ (o2 (i * P.cellsOf e + j) u' x ?_ hx)
              have hj : j < ts.length := (List.getElem?_eq_some_iff.1 hu').1
              have hlt : i * P.cellsOf e + j < (List.replicate len ts).flatten.length := by
                simp
                have := Nat.mul_le_mul_right (P.cellsOf e) (Nat.succ_le_of_lt hi)
                rw [Nat.succ_mul] at this
                rw [hc]; omega
              obtain ⟨q, r, h1, h2, h3, h4⟩ := rep_get ts len _ _ (List.getElem?_eq_getElem hlt)
              have : q = i ∧ r = j := by
                rw [hc] at h2 h3
                have e1 : (i * P.cellsOf e + j) / P.cellsOf e = i := by rw [Nat.mul_comm, Nat.mul_add_div hpos, Nat.div_eq_of_lt (by omega)]; omega
                have e2 : (q * P.cellsOf e + r) / P.cellsOf e = q := by rw [Nat.mul_comm, Nat.mul_add_div hpos, Nat.div_eq_of_lt (by omega)]; omega
                have : i = q := by rw [← e1, h2, e2]
                subst this; omega
              rw [List.getElem?_eq_getElem hlt, ← h4, this.2, hu']
            · exact ⟨⟨a.block, a.off, c.size, true⟩, some a, cap, by simp, rfl, hle, .inr ⟨a.off, by cases a; simp at hspot; subst hspot; rfl, rfl, hbound, .inr (by simp)⟩⟩
      · cases hg
    · cases hg
end
end Go.Abs



/- What opened arguments hold. -/
namespace Go.Abs
open Go.RowKit (Below)
set_option linter.unusedVariables false
section
variable {P : Program} {G : Heap} {d : Nat} {u e : TypeId} {c : Cell} {k : IntKind}
def numC : Cell → Int | .int _ z => z | _ => 0
theorem OkC.int (hu : P.underlying u = some (.int k)) (h : OkC P G (d + 1) u c) : ∃ n, c = .int k n ∧ (Lit.int k n).wf = true := by
  simpa only [OkC, hu] using h
theorem OkC.bool (hu : P.underlying u = some .bool) (h : OkC P G (d + 1) u c) : ∃ b, c = .bool b := by
  simpa only [OkC, hu] using h
theorem OkC.str (hu : P.underlying u = some .string) (h : OkC P G (d + 1) u c) : ∃ s : ByteArray, c = .str s ∧ s.size ≤ maxLen := by
  simpa only [OkC, hu] using h
theorem OkC.ints {m : Nat} {t' : TypeId} (hu : P.underlying u = some (.slice e)) (hes : P.cellsOf e = m) (hm : 0 < m) (hts : fl P 10 e = some (List.replicate m t')) (ht' : P.underlying t' = some (.int k)) (h : OkC P G (d + 2) u c) :
    ∃ (l : List Int) (n : Nat) (rs : List (Nat × AObj)), Sl m (l.map (Cell.int k)) n c rs ∧ (∀ q ∈ rs, G q.1 = .live q.2) ∧ l.length = n * m ∧ n ≤ maxLen ∧ ∀ z ∈ l, (Lit.int k z).wf = true := by
  rw [OkC] at h
  simp only [hu] at h
  rcases h with rfl | ⟨kk, len, cells, ts, rfl, h2, h3, h4, h5, h6, h7⟩
  · exact ⟨[], 0, [], .nil rfl rfl, by simp, by simp, Nat.zero_le _, by simp⟩
  · rw [hts] at h4
    cases h4
    rw [hes] at h6 h7
    have each : ∀ (q : Nat) (x : Cell), cells[q]? = some x → ∃ z, x = .int k z ∧ (Lit.int k z).wf = true := by
      intro q x hx
      have hq : q < len * m := by rw [← h6]; exact (List.getElem?_eq_some_iff.1 hx).1
      have e1 : q / m * m + q % m = q := by rw [Nat.mul_comm]; exact Nat.div_add_mod q m
      have := h7 (q / m) (q % m) x ((Nat.div_lt_iff_lt_mul hm).2 hq) t' (by rw [List.getElem?_replicate, if_pos (Nat.mod_lt _ hm)]) (by rw [e1]; exact hx)
      exact OkC.int ht' this
    have hcells : cells = (cells.map numC).map (Cell.int k) := by
      rw [List.map_map]
      refine (List.map_id cells).symm.trans (List.map_congr_left fun x hx => ?_)
      obtain ⟨q, hq⟩ := List.getElem?_of_mem hx
      obtain ⟨z, rfl, _⟩ := each q x hq
      rfl
    refine ⟨cells.map numC, len, [(kk, ⟨cells, false⟩)], ?_, by simpa using h2, by simpa using h6, h3, ?_⟩
    · rw [← hcells, hes]
      exact .mk kk false h6
    · intro z hz
      obtain ⟨x, hx, rfl⟩ := List.mem_map.1 hz
      obtain ⟨q, hq⟩ := List.getElem?_of_mem hx
      obtain ⟨z, rfl, hz'⟩ := each q x hq
      exact hz'
end
section
variable {H : Type} {enc : TypeId × Value → H} {P : Program} {w : World}
theorem open_cell {D : Nat} {t : TypeId} {v : Value} {dd : DataW H} {ps : List MemPlace} (hg : good P D t = true) (hv : v.cells.toList = [v]) (h : DataW.Trod enc P w 0 (fun _ => true) true t v dd ps) (μ : LMap) (G : Heap) (hR : Rel w.heap.size μ G w) (hM : ∃ M, ∀ k, M ≤ k → G k = .free) :
    Opened P w μ G fun μ' G' => ∃ x, OkC P G' D t x ∧ RepV μ' (.c x) v := by
  obtain ⟨fuel, hf⟩ := h
  rw [hv] at hf
  obtain ⟨μ', G', h1, h2, h3, h4, x, h5, h6⟩ := open1 (enc := enc) D t v hg ⟨fuel, _, hf⟩ μ G hR hM
  exact ⟨μ', G', h1, h2, h3, h4, x, h5, .c h6⟩
end
theorem RepVs.cons {μ : LMap} {a : AV} {as_ : List AV} {v : Value} {vs : List Value} (h : RepV μ a v) (hs : RepVs μ as_ vs) : RepVs μ (a :: as_) (v :: vs) := ⟨h, hs⟩
end Go.Abs



/- Equal arrays; loops that end early; bytes. -/
namespace Go.Abs
theorem sameInts_map {k : IntKind} : ∀ {f g : List Int}, f.length = g.length → sameInts (f.map (Cell.int k)) (g.map (Cell.int k)) = true
  | [], [], _ => rfl
  | _ :: f, _ :: g, h => by simp [sameInts, sameInts_map (f := f) (g := g) (by simpa using h)]
  | [], _ :: _, h => by simp at h
  | _ :: _, [], h => by simp at h
theorem intsEq_map {k : IntKind} : ∀ {f g : List Int}, f.length = g.length → intsEq (f.map (Cell.int k)) (g.map (Cell.int k)) = decide (f = g)
  | [], [], _ => rfl
  | x :: f, y :: g, h => by
    have e : (x == y) = decide (x = y) := Bool.eq_iff_iff.2 (by simp)
    simp [intsEq, intsEq_map (f := f) (g := g) (by simpa using h), e]
  | [], _ :: _, h => by simp at h
  | _ :: _, [], h => by simp at h
@[go_sem] theorem sameInts_u8s {f g : List Int} (h : f.length = g.length) : sameInts (u8s f) (u8s g) = true := sameInts_map h
@[go_sem] theorem intsEq_u8s {f g : List Int} (h : f.length = g.length) : intsEq (u8s f) (u8s g) = decide (f = g) := intsEq_map h
@[go_sem] theorem sameInts_i64s {f g : List Int} (h : f.length = g.length) : sameInts (i64s f) (i64s g) = true := sameInts_map h
@[go_sem] theorem intsEq_i64s {f g : List Int} (h : f.length = g.length) : intsEq (i64s f) (i64s g) = decide (f = g) := intsEq_map h
def byteL (l : List Int) : Prop := ∀ z ∈ l, 0 ≤ z ∧ z ≤ 255
theorem byteL.sub {l : List Int} (h : byteL l) (o n : Nat) : byteL (sub l o n) := fun z hz => h z (List.mem_of_mem_drop (List.mem_of_mem_take hz))
theorem byteL.get {l : List Int} (h : byteL l) (i : Nat) : 0 ≤ l.getD i 0 ∧ l.getD i 0 ≤ 255 := by
  rw [List.getD_eq_getElem?_getD]
  cases e : l[i]? with
  | none => simp
  | some z => exact h z (List.mem_of_getElem? e)
theorem byteL.of {l : List Int} (h : ∀ z ∈ l, (Lit.int .u8 z).wf = true) : byteL l := fun z hz => by
  have := h z hz
  simp [Lit.wf, IntKind.min, IntKind.max, IntKind.signed, IntKind.bits] at this
  omega
theorem all_range_succ {q : Nat → Bool} {n : Nat} : (List.range (n + 1)).all q = ((List.range n).all q && q n) := by simp [List.range_succ]
theorem all_range_false {q : Nat → Bool} {n i : Nat} (hi : i < n) (h : q i = false) : (List.range n).all q = false := by
  rw [List.all_eq_false]; exact ⟨i, List.mem_range.2 hi, by simp [h]⟩
@[go_sem] theorem sub_all {l : List Int} {n : Nat} (h : l.length = n) : sub l 0 n = l := by subst h; simp [sub]
@[go_sem] theorem sub_len {l : List Int} {off n : Nat} (h : off + n ≤ l.length) : (sub l off n).length = n := sub_length h
@[go_sem] theorem putL_all {o v : List Int} (h : v.length = o.length) : putL o 0 v = v := by rw [putL_eq (by omega), List.take_zero, List.nil_append, List.drop_of_length_le (by omega), List.append_nil]
@[go_sem] theorem some_eqN {a b : Nat} : (some a = some b) = (a = b) := by simp
attribute [go_sem] Int.toNat_zero Int.toNat_one
@[go_sem] theorem lit_add0 : ((0 : Int) + 1) = 1 := rfl
@[go_sem] theorem lit_add1 : ((1 : Int) + 1) = 2 := rfl
@[go_sem] theorem lit_add2 : ((2 : Int) + 1) = 3 := rfl
@[go_sem] theorem lit_add3 : ((3 : Int) + 1) = 4 := rfl
@[go_sem] theorem lit_add4 : ((4 : Int) + 1) = 5 := rfl
@[go_sem] theorem lit_add5 : ((5 : Int) + 1) = 6 := rfl
@[go_sem] theorem lit_add6 : ((6 : Int) + 1) = 7 := rfl
@[go_sem] theorem lit_add7 : ((7 : Int) + 1) = 8 := rfl
@[go_sem] theorem lit_add8 : ((8 : Int) + 1) = 9 := rfl
@[go_sem] theorem lit_add9 : ((9 : Int) + 1) = 10 := rfl
@[go_sem] theorem lit_add10 : ((10 : Int) + 1) = 11 := rfl
@[go_sem] theorem lit_add11 : ((11 : Int) + 1) = 12 := rfl
@[go_sem] theorem lit_nat2 : Int.toNat (2 : Int) = 2 := rfl
@[go_sem] theorem lit_nat3 : Int.toNat (3 : Int) = 3 := rfl
@[go_sem] theorem lit_nat4 : Int.toNat (4 : Int) = 4 := rfl
@[go_sem] theorem lit_nat5 : Int.toNat (5 : Int) = 5 := rfl
@[go_sem] theorem lit_nat6 : Int.toNat (6 : Int) = 6 := rfl
@[go_sem] theorem lit_nat7 : Int.toNat (7 : Int) = 7 := rfl
@[go_sem] theorem lit_nat8 : Int.toNat (8 : Int) = 8 := rfl
@[go_sem] theorem lit_nat9 : Int.toNat (9 : Int) = 9 := rfl
@[go_sem] theorem lit_nat10 : Int.toNat (10 : Int) = 10 := rfl
@[go_sem] theorem lit_nat11 : Int.toNat (11 : Int) = 11 := rfl
@[go_sem] theorem lit_nat12 : Int.toNat (12 : Int) = 12 := rfl
@[go_sem] theorem lit_nat13 : Int.toNat (13 : Int) = 13 := rfl
@[go_sem] theorem lit_nat14 : Int.toNat (14 : Int) = 14 := rfl
@[go_sem] theorem lit_nat15 : Int.toNat (15 : Int) = 15 := rfl
@[go_sem] theorem lit_nat16 : Int.toNat (16 : Int) = 16 := rfl
@[go_sem] theorem lit_nat17 : Int.toNat (17 : Int) = 17 := rfl
@[go_sem] theorem lit_nat18 : Int.toNat (18 : Int) = 18 := rfl
@[go_sem] theorem lit_nat19 : Int.toNat (19 : Int) = 19 := rfl
@[go_sem] theorem lit_nat20 : Int.toNat (20 : Int) = 20 := rfl
@[go_sem] theorem lit_nat21 : Int.toNat (21 : Int) = 21 := rfl
@[go_sem] theorem lit_nat22 : Int.toNat (22 : Int) = 22 := rfl
@[go_sem] theorem lit_nat23 : Int.toNat (23 : Int) = 23 := rfl
@[go_sem] theorem lit_nat24 : Int.toNat (24 : Int) = 24 := rfl
@[go_sem] theorem lit_nat25 : Int.toNat (25 : Int) = 25 := rfl
@[go_sem] theorem lit_nat26 : Int.toNat (26 : Int) = 26 := rfl
@[go_sem] theorem lit_nat27 : Int.toNat (27 : Int) = 27 := rfl
theorem flat_ids {cs : List Cell} (h : Abs.flat cs) : cs.flatMap Cell.ids = [] := by
  rw [List.flatMap_eq_nil_iff]; exact fun c hc => h c hc
/-- One aggregate of plain cells is returned. -/
theorem ret_flat {P : Program} {G : Heap} {N : Nat} {L : List Slot} {T : List AV} (hN : ∀ k, N ≤ k → G k = .free) {a : Tmp} {t : TypeId} {cs ds : List Cell} (hr : resOne P T ⟨G, N, L⟩ (.cell a t) (.agg cs)) (hf : Abs.flat ds) (e : cs = ds) :
    retS P [.cell a t] G N (.agg ds) [] .ret T ⟨G, N, L⟩ := by
  subst e
  exact ret_none hN [.agg cs] ⟨hr, trivial⟩ rfl rfl (flat_ids hf) (by simp)
end Go.Abs



/- A loop round by round; new slots forgotten at a round's end. -/
namespace Go.Abs
open Go.RowKit (Below)
set_option linter.unusedVariables false
section
variable {P : Program}
def rndK (R : List AV → AHeap → Prop) (K : Exit → List AV → AHeap → Prop) : Exit → List AV → AHeap → Prop
  | .normal, T, h => R T h
  | e, T, h => K e T h
def sRounds (P : Program) (x : SCode) (K : Exit → List AV → AHeap → Prop) : Nat → List AV → AHeap → Prop
  | 0, _, _ => False
  | n + 1, T, h => SWP P x (rndK (sRounds P x K n) K) T h
theorem rndK_exit {R : List AV → AHeap → Prop} {K : Exit → List AV → AHeap → Prop} {id : Nat} {T : List AV} {h : AHeap} (hy : K (.exit id) T h) : rndK R K (.exit id) T h := hy
theorem rndK_ret {R : List AV → AHeap → Prop} {K : Exit → List AV → AHeap → Prop} {T : List AV} {h : AHeap} (hy : K .ret T h) : rndK R K .ret T h := hy
theorem rndK_normal {x : SCode} {K : Exit → List AV → AHeap → Prop} {n : Nat} {T : List AV} {h : AHeap} (hy : SWP P x (rndK (sRounds P x K n) K) T h) : rndK (sRounds P x K (n + 1)) K .normal T h := hy
theorem swp_rounds {x : SCode} {K : Exit → List AV → AHeap → Prop} {T : List AV} {h : AHeap} (n : Nat) (hx : SWP P x (rndK (sRounds P x K n) K) T h) : SWP P (.loop x) K T h := by
  intro c hl
  obtain ⟨a, rfl, h1⟩ := lower_loop hl
  have key : ∀ (n : Nat) (T : List AV) (h : AHeap), sRounds P x K n T h → ∀ (B : Nat) (μ0 μ : LMap) (b : Act) (w0 w : World), μ0.le μ → RepT μ T b → Rel B μ h.get w → Below B w0 w →
      Code.rounds P a (fun e a' w' => ∃ μ' T' h', K e T' h' ∧ μ0.le μ' ∧ RepT μ' T' a' ∧ Rel B μ' h'.get w' ∧ Below B w0 w') n b w := by
    intro n
    induction n with
    | zero => intro T h hs; exact hs.elim
    | succ n ih =>
      intro T h hs B μ0 μ b w0 w hle ht hr hb
      rw [rounds_succ]
      refine wp_mono (hs a h1 B μ b w ht hr) ?_
      rintro e a' w' ⟨μ', T', h', g1, g2, g3, g4, g5⟩
      cases e with
      | normal => exact ih T' h' g1 B μ0 μ' a' w0 w' (LMap.le_trans hle g2) g3 g4 (hb.trans g5)
      | _ => exact ⟨μ', T', h', g1, LMap.le_trans hle g2, g3, g4, hb.trans g5⟩
  intro B μ b w ht hr
  exact wp_loop_rounds (n + 1) (key (n + 1) T h hx B μ μ b w w (LMap.le_refl _) ht hr (Below.refl _ _))

@[go_sem] theorem consF_rw {i : Nat} {rs : List (Nat × AObj)} {w : Nat × Slot} {ws : List (Nat × Slot)} {F : Foot} : consF i rs (w :: ws) F = (i, rs.map (·.1), w.1 :: ws.map (·.1)) :: F := by cases rs <;> rfl
theorem mapIds_same {σ : Nat → Nat} {c : Cell} (h : ∀ i ∈ c.ids, σ i = i) : c.mapIds σ = c := by
  cases c <;> simp_all [Cell.mapIds, Cell.ids]
  case fn f caps =>
    conv => rhs; rw [← List.map_id caps]
    exact List.map_congr_left fun q hq => by
      have := h q.1 q.2 hq
      simp [this]
end
end Go.Abs



/- Two new objects at once. -/
namespace Go.Abs
set_option linter.unusedVariables false
section
variable {P : Program}
@[go_sem] theorem setAt_again : ∀ {L : List Slot} {i : Nat} {s t : Slot}, setAt (setAt L i s) i t = setAt L i t
  | [], 0, _, _ => rfl
  | [], i + 1, s, t => congrArg (Slot.free :: ·) (setAt_again (L := []) (i := i) (s := s) (t := t))
  | _ :: _, 0, _, _ => rfl
  | x :: L, i + 1, s, t => congrArg (x :: ·) (setAt_again (L := L) (i := i) (s := s) (t := t))
/-- Operations in whatever order, where what is written and what else is touched can be told apart by counting alone. -/
def apB (a b : List Nat) : Bool := a.isEmpty || b.isEmpty
def confB : List (Nat × Nat) → Foot → Bool
  | [], _ => true
  | (i, j) :: U, F => apB (lk F i).2 (lk F j).1 && apB (lk F i).2 (lk F j).2 && apB (lk F i).1 (lk F j).2 && confB U F
theorem apart_of {a b : List Nat} (h : apB a b = true) : apart a b := by
  cases a with
  | nil => trivial
  | cons x a =>
    cases b with
    | cons => simp [apB] at h
    | nil =>
      clear h
      have : ∀ a : List Nat, apart a [] := by
        intro a
        induction a with
        | nil => trivial
        | cons x a ih => exact ⟨trivial, ih⟩
      exact this _
theorem conf_of : ∀ {U : List (Nat × Nat)} {F : Foot}, confB U F = true → confV U F
  | [], _, _ => trivial
  | (i, j) :: U, F, h => by
    simp only [confB, Bool.and_eq_true] at h
    exact ⟨⟨apart_of h.1.1.1, apart_of h.1.1.2, apart_of h.1.2⟩, conf_of h.2⟩
theorem must_conf {U : List (Nat × Nat)} {F : Foot} {X : Prop} (h : confB U F = true) (hX : X) : must (confV U F) (.mk X) := ⟨conf_of h, hX⟩
def confT (F : Foot) (q : Nat × Nat) : Bool := apB (lk F q.1).2 (lk F q.2).1 && apB (lk F q.1).2 (lk F q.2).2 && apB (lk F q.1).1 (lk F q.2).2
theorem conf_filter {F : Foot} : ∀ {U : List (Nat × Nat)}, confV (U.filter fun q => !confT F q) F → confV U F
  | [], _ => trivial
  | (i, j) :: U, h => by
    cases e : confT F (i, j) with
    | true =>
      rw [List.filter_cons_of_neg (by simp [e])] at h
      simp only [confT, Bool.and_eq_true] at e
      exact ⟨⟨apart_of e.1.1, apart_of e.1.2, apart_of e.2⟩, conf_filter h⟩
    | false =>
      rw [List.filter_cons_of_pos (by simp [e])] at h
      exact ⟨h.1, conf_filter h.2⟩
theorem must_confF {U : List (Nat × Nat)} {F : Foot} {X : Prop} (V : List (Nat × Nat)) (h0 : (U.filter fun q => !confT F q) = V) (h : confV V F) (hX : X) : must (confV U F) (.mk X) := ⟨conf_filter (by rw [h0]; exact h), hX⟩
variable {G : Heap} {N : Nat} {L : List Slot} {T : List AV}
end
end Go.Abs



/- Slices of slices: rows that lie at slots of their own. -/
namespace Go.Abs
set_option linter.unusedVariables false
/-- The cells of a slice of rows, all of one length. -/
def rowC (ks : List Nat) (m : Nat) : List Cell := ks.map fun k => .slice k 0 m 1
@[go_sem] theorem rowC_length (ks : List Nat) (m : Nat) : (rowC ks m).length = ks.length := by simp [rowC]
/-- Rows that are new slots. -/
def rowN (N : Nat) (js : List Nat) (m : Nat) : List Cell := js.map fun j => .slice (nid N j) 0 m 1
@[go_sem] theorem rowN_length (N : Nat) (js : List Nat) (m : Nat) : (rowN N js m).length = js.length := by simp [rowN]
@[go_sem] theorem withCell_rowC {ks : List Nat} {m i : Nat} {F : Cell → Prop} (h : i < ks.length) : withCell (rowC ks m) i (.mk F) = F (.slice (ks.getD i 0) 0 m 1) :=
  withCell_eq (by simp [rowC, h, List.getD_eq_getElem?_getD])
@[go_sem] theorem withCell_rowN {N : Nat} {js : List Nat} {m i : Nat} {F : Cell → Prop} (h : i < js.length) : withCell (rowN N js m) i (.mk F) = F (.slice (nid N (js.getD i 0)) 0 m 1) :=
  withCell_eq (by simp [rowN, h, List.getD_eq_getElem?_getD])
@[go_sem] theorem splice_rowN {N : Nat} {js : List Nat} {m i j : Nat} (h : i < js.length) : splice (rowN N js m) i [.slice (nid N j) 0 m 1] = rowN N (js.set i j) m := by
  simp only [splice, rowN, List.length_cons, List.length_nil]
  rw [← List.map_take, ← List.map_drop, List.set_eq_take_append_cons_drop, if_pos h]
  simp
@[go_sem] theorem rowN_snoc {N : Nat} {js : List Nat} {m j : Nat} : rowN N js m ++ [.slice (nid N j) 0 m 1] = rowN N (js ++ [j]) m := by simp [rowN]
@[go_sem] theorem rowN_nil {N m : Nat} : rowN N [] m = [] := rfl
@[go_sem] theorem rowC_nil {m : Nat} : rowC [] m = [] := rfl
theorem ldn_full {cs : List Cell} : ldn cs 0 cs.length = cs := by rw [ldn, List.drop_zero, List.take_length]
@[go_sem] theorem ldn_rowN {N : Nat} {js : List Nat} {m n : Nat} (h : js.length = n) : ldn (rowN N js m) 0 n = rowN N js m := by
  subst h; rw [ldn, List.drop_zero]; exact List.take_of_length_le (by simp [rowN])

/-- What the rows hold. -/
structure Rows (L : List Slot) (js : List Nat) (R : List (List Int)) : Prop where
  len : js.length = R.length
  nd : js.Nodup
  lt : ∀ j ∈ js, j < L.length
  at_ : ∀ i, i < R.length → gd L (js.getD i 0) = .live ⟨i64s (R.getD i []), true⟩
theorem getD_mem {js : List Nat} {i : Nat} (h : i < js.length) : js.getD i 0 ∈ js := by
  rw [List.getD_eq_getElem?_getD, List.getElem?_eq_getElem h]; exact List.getElem_mem h
theorem Rows.nil {L : List Slot} : Rows L [] [] := ⟨rfl, List.nodup_nil, by simp, by simp⟩
theorem Rows.ext {L L' : List Slot} {js : List Nat} {R : List (List Int)} (h : Rows L js R) (hl : L.length ≤ L'.length) (hg : ∀ j ∈ js, gd L' j = gd L j) : Rows L' js R :=
  ⟨h.len, h.nd, fun j hj => Nat.lt_of_lt_of_le (h.lt j hj) hl, fun i hi => by rw [hg _ (getD_mem (by rw [h.len]; exact hi)), h.at_ i hi]⟩
theorem Rows.out {L : List Slot} {js : List Nat} {R : List (List Int)} (h : Rows L js R) {j : Nat} (hj : j ∉ js) (s : Slot) : Rows (setAt L j s) js R :=
  h.ext (by rw [setAt_length]; omega) fun i hi => gd_setAt_ne' (fun e => hj (e ▸ hi))
theorem Rows.new {L : List Slot} {js : List Nat} {R : List (List Int)} (h : Rows L js R) {j : Nat} (hj : L.length ≤ j) (s : Slot) : Rows (setAt L j s) js R :=
  h.out (fun hm => by have := h.lt j hm; omega) s
theorem getD_inj {js : List Nat} (h : js.Nodup) {a b : Nat} (ha : a < js.length) (hb : b < js.length) (e : js.getD a 0 = js.getD b 0) : a = b := by
  simp only [List.getD_eq_getElem?_getD, List.getElem?_eq_getElem ha, List.getElem?_eq_getElem hb, Option.getD_some] at e
  rcases Nat.lt_trichotomy a b with hl | hl | hl
  · exact absurd e (List.pairwise_iff_getElem.1 h a b ha hb hl)
  · exact hl
  · exact absurd e.symm (List.pairwise_iff_getElem.1 h b a hb ha hl)
theorem getD_set {α : Type} {l : List α} {i t : Nat} {x d : α} (h : i < l.length) : (l.set i x).getD t d = if t = i then x else l.getD t d := by
  simp only [List.getD_eq_getElem?_getD, List.getElem?_set]
  split
  · rename_i e; subst e; simp [h]
  · rename_i e; rw [if_neg (fun e' => e e'.symm)]
theorem Rows.set {L : List Slot} {js : List Nat} {R : List (List Int)} (h : Rows L js R) {i : Nat} (hi : i < R.length) (r : List Int) : Rows (setAt L (js.getD i 0) (.live ⟨i64s r, true⟩)) js (R.set i r) := by
  have hl := h.len
  refine ⟨by simpa using h.len, h.nd, fun j hj => by rw [setAt_length]; have := h.lt j hj; omega, fun t ht => ?_⟩
  rw [List.length_set] at ht
  rw [getD_set hi]
  by_cases e : t = i
  · subst e; rw [if_pos rfl, gd_setAt_same]
  · rw [if_neg e, gd_setAt_ne' (fun e' => e (getD_inj h.nd (by omega) (by omega) e')), h.at_ t ht]
def swapL {α : Type} (l : List α) (a b : Nat) (d : α) : List α := (l.set a (l.getD b d)).set b (l.getD a d)
theorem swapL_length {α : Type} (l : List α) (a b : Nat) (d : α) : (swapL l a b d).length = l.length := by simp [swapL]
theorem swapL_get {α : Type} {l : List α} {a b : Nat} {d : α} (ha : a < l.length) (hb : b < l.length) (t : Nat) : (swapL l a b d).getD t d = l.getD (if t = b then a else if t = a then b else t) d := by
  rw [swapL, getD_set (by simpa using hb)]
  split
  · rfl
  · rw [getD_set ha]
    split <;> rfl
theorem swap_lt {a b t n : Nat} (ha : a < n) (hb : b < n) (ht : t < n) : (if t = b then a else if t = a then b else t) < n := by
  split
  · exact ha
  · split
    · exact hb
    · exact ht
theorem Rows.swap {L : List Slot} {js : List Nat} {R : List (List Int)} (h : Rows L js R) {a b : Nat} (ha : a < R.length) (hb : b < R.length) : Rows L (swapL js a b 0) (swapL R a b []) := by
  have hl := h.len
  have ha' : a < js.length := by omega
  have hb' : b < js.length := by omega
  refine ⟨by simp [swapL_length, hl], ?_, ?_, ?_⟩
  · rw [List.nodup_iff_pairwise_ne, List.pairwise_iff_getElem]
    intro i j hi hj hij e
    have hi' : i < js.length := by simpa [swapL_length] using hi
    have hj' : j < js.length := by simpa [swapL_length] using hj
    have e2 : (swapL js a b 0).getD i 0 = (swapL js a b 0).getD j 0 := by
      simp only [List.getD_eq_getElem?_getD, List.getElem?_eq_getElem hi, List.getElem?_eq_getElem hj, Option.getD_some]; exact e
    rw [swapL_get ha' hb', swapL_get ha' hb'] at e2
    have := getD_inj h.nd (swap_lt ha' hb' hi') (swap_lt ha' hb' hj') e2
    split at this <;> split at this <;> (try split at this) <;> (try split at this) <;> omega
  · intro j hj
    obtain ⟨t, ht, rfl⟩ := List.mem_iff_getElem.1 hj
    have ht' : t < js.length := by simpa [swapL_length] using ht
    have e2 : (swapL js a b 0)[t] = (swapL js a b 0).getD t 0 := by simp only [List.getD_eq_getElem?_getD, List.getElem?_eq_getElem ht, Option.getD_some]
    rw [e2, swapL_get ha' hb']
    exact h.lt _ (getD_mem (swap_lt ha' hb' ht'))
  · intro i hi
    rw [swapL_length] at hi
    rw [swapL_get ha' hb', swapL_get ha hb]
    exact h.at_ _ (swap_lt ha hb hi)
theorem getD_app_lt {α : Type} {l l' : List α} {i : Nat} {d : α} (h : i < l.length) : (l ++ l').getD i d = l.getD i d := by
  simp only [List.getD_eq_getElem?_getD, List.getElem?_append_left h]
theorem getD_app_len {α : Type} {l : List α} {x d : α} : (l ++ [x]).getD l.length d = x := by
  simp [List.getD_eq_getElem?_getD]
theorem Rows.push {L : List Slot} {js : List Nat} {R : List (List Int)} (h : Rows L js R) {j : Nat} {r : List Int} (hj : j ∉ js) (hlt : j < L.length) (hg : gd L j = .live ⟨i64s r, true⟩) : Rows L (js ++ [j]) (R ++ [r]) := by
  have hl := h.len
  refine ⟨by simp [hl], ?_, ?_, ?_⟩
  · rw [List.nodup_append]
    exact ⟨h.nd, by simp, fun a ha b hb => by simp at hb; subst hb; exact fun e => hj (e ▸ ha)⟩
  · intro t ht
    rcases List.mem_append.1 ht with ht | ht
    · exact h.lt t ht
    · simp at ht; subst ht; exact hlt
  · intro i hi
    simp only [List.length_append, List.length_cons, List.length_nil] at hi
    by_cases e : i < R.length
    · rw [getD_app_lt (by omega), getD_app_lt e]; exact h.at_ i e
    · have e' : i = R.length := by omega
      subst e'
      rw [getD_app_len]
      rw [← hl, getD_app_len]; exact hg
end Go.Abs



/- Objects cut short; short names. -/
namespace Go.Abs
set_option linter.unusedVariables false
theorem ObjAt.trunc {μ : LMap} {B : Nat} {w : World} {l : Loc} {cs : List Cell} {own : Bool} (h : ObjAt μ B w l ⟨cs, own⟩) (n : Nat) : ObjAt μ B w l ⟨cs.take n, own⟩ := by
  unfold ObjAt at *
  split
  · rename_i hr
    simp only [hr, if_true] at h
    obtain ⟨c, elem, fz, h1, h2, h3, h4⟩ := h
    refine ⟨c, elem, fz, h1, h2, fun j x hx => ?_, h4⟩
    rw [List.getElem?_take] at hx
    split at hx
    · exact h3 j x hx
    · cases hx
  · rename_i hr
    simp only [hr] at h
    simpa using by rw [show cs = [] from by simpa using h]; simp
theorem Rel.trunc {B : Nat} {μ : LMap} {A : Heap} {w : World} (h : Rel B μ A w) {k : Nat} {cs : List Cell} {own : Bool} (hk : A k = .live ⟨cs, own⟩) (n : Nat) : Rel B μ (upd A k (.live ⟨cs.take n, own⟩)) w := by
  refine ⟨fun j hj => ?_, fun j o hj => ?_, fun i j oi oj li lj hi hj hoi hoj hli hlj hri hrj hne => ?_, h.size⟩
  · by_cases e : j = k
    · subst e; simp at hj
    · rw [upd_ne _ _ e] at hj; exact h.free j hj
  · by_cases e : j = k
    · subst e
      simp only [upd_same, Slot.live.injEq] at hj
      subst hj
      obtain ⟨l, h1, h2⟩ := h.obj j _ hk
      exact ⟨l, h1, h2.trunc n⟩
    · rw [upd_ne _ _ e] at hj; exact h.obj j o hj
  · have get : ∀ i o, upd A k (.live ⟨cs.take n, own⟩) i = .live o → ∃ o', A i = .live o' ∧ o'.own = o.own := by
      intro i o hi
      by_cases e : i = k
      · subst e
        simp only [upd_same, Slot.live.injEq] at hi
        subst hi
        exact ⟨_, hk, rfl⟩
      · rw [upd_ne _ _ e] at hi; exact ⟨o, hi, rfl⟩
    obtain ⟨oi', a1, a2⟩ := get i oi hi
    obtain ⟨oj', b1, b2⟩ := get j oj hj
    exact h.inj i j oi' oj' li lj a1 b1 (a2.trans hoi) (b2.trans hoj) hli hlj hri hrj hne
theorem swp_trunc {P : Program} {x : SCode} {K : Exit → List AV → AHeap → Prop} {T : List AV} {h : AHeap} {k : Nat} {cs : List Cell} {own : Bool} (n : Nat) (hk : h.get k = .live ⟨cs, own⟩) (hx : SWP P x K T (h.put k (.live ⟨cs.take n, own⟩))) : SWP P x K T h := by
  intro c hl B μ a w ht hR
  refine hx c hl B μ a w ht ?_
  rw [AHeap.get_put]
  exact hR.trunc hk n
/-! Short names for the walk. -/
section
variable {P : Program} {K : Exit → List AV → AHeap → Prop} {T : List AV} {h : AHeap}
abbrev W1 := @seqS_normal
abbrev W2 := @swp_seq
abbrev W3 := @run_ops
abbrev W4 := @run_opsD
abbrev W5 := @swp_skip
abbrev W6 := @swp_exit
abbrev W7 := @swp_ret
abbrev W8 := @seqS_exit
abbrev W9 := @seqS_ret
abbrev V1 := @swp_block
abbrev V2 := @blockK_normal
abbrev V3 := @blockK_exit
abbrev V4 := @blockK_exit_ne
abbrev V5 := @forK_exit
abbrev V6 := @forK_ret
abbrev V7 := @rndK_normal
abbrev V8 := @rndK_exit
abbrev V9 := @rndK_ret
abbrev U1 := @loopK_exit
abbrev U2 := @loopK_ret
abbrev U3 := @blockK_ret
abbrev U4 := @must_intro
abbrev U5 := @swp_cond
abbrev U6 := @onB_intro
end
theorem Z1 {v o : List Int} {i : Nat} : (putL o i v).length = o.length := putL_len
theorem Z2 (n : Nat) : (zeros n).length = n := zeros_length n
theorem Z3 {l : List Int} {off n : Nat} (h : off + n ≤ l.length) : (sub l off n).length = n := sub_length h
theorem Z4 {α : Type} {as_ : List α} {i : Nat} {a : α} : (as_.set i a).length = as_.length := List.length_set
theorem Z5 (l : List Int) : (u8s l).length = l.length := u8s_length l
theorem Z6 (l : List Int) : (i64s l).length = l.length := i64s_length l
theorem Z7 {α : Type} {as_ bs : List α} : (as_ ++ bs).length = as_.length + bs.length := List.length_append
theorem Z8 {L : List Slot} {i : Nat} {s : Slot} : (setAt L i s).length = max L.length (i + 1) := setAt_length
theorem Z9 {α : Type} {n : Nat} {a : α} : (List.replicate n a).length = n := List.length_replicate
theorem Y1 {α : Type} {a : α} {as_ : List α} : (a :: as_).length = as_.length + 1 := List.length_cons
theorem Y2 {α : Type} : ([] : List α).length = 0 := List.length_nil
end Go.Abs
