/- Ends of bodies: a plain value; new objects handed out. -/
import Derived.Test.YtgkknajopejleaaAbsM
set_option linter.unusedVariables false
namespace Go.Abs
open Go.RowKit (Below)

def flat (cs : List Cell) : Prop := ∀ c ∈ cs, c.ids = []
inductive NoIds : AV → Prop
  | c {x : Cell} : x.ids = [] → NoIds (.c x)
  | agg {cs : List Cell} : flat cs → NoIds (.agg cs)
  | tup {vs : List AV} : (∀ v ∈ vs, NoIds v) → NoIds (.tup vs)

theorem mapIds_flat {σ : Nat → Nat} {c : Cell} (h : c.ids = []) : c.mapIds σ = c := by
  cases c <;> simp_all [Cell.ids, Cell.mapIds]
theorem map_flat {σ : Nat → Nat} {cs : List Cell} (h : flat cs) : cs.map (Cell.mapIds σ) = cs := by
  conv => rhs; rw [← List.map_id cs]
  exact List.map_congr_left fun c hc => mapIds_flat (h c hc)
theorem NoIds.named {σ : Nat → Nat} {ok : Nat → Prop} {v : AV} (h : NoIds v) : Named σ ok v v := by
  induction h with
  | c hx =>
    rename_i x
    have := Named.c (σ := σ) (ok := ok) (x := x) (by simp [hx])
    rwa [mapIds_flat hx] at this
  | agg hc =>
    rename_i cs
    have := Named.agg (σ := σ) (ok := ok) (cs := cs) (fun x hx i hi => by rw [hc x hx] at hi; cases hi)
    rwa [map_flat hc] at this
  | tup _ ih =>
    refine .tup rfl fun i a b ha hb => ?_
    rw [ha] at hb; cases hb
    exact ih a (List.mem_of_getElem? ha)

section
variable {P : Program} {G : Heap} {N : Nat} {L : List Slot} {T : List AV}

theorem Final.plain (hN : ∀ k, N ≤ k → G k = .free) {v : AV} (hv : NoIds v) : Final G N ⟨G, N, L⟩ v v [] id := by
  refine ⟨fun _ _ => rfl, fun k o hk => .inl ⟨hk, ?_⟩, fun k hk => hk, fun k k' o o' _ _ _ _ hne => hne, hv.named⟩
  have hlt : k < N := by
    rcases Nat.lt_or_ge k N with h | h
    · exact h
    · have := hN k h
      simp only [putsG, List.foldl_nil] at hk
      rw [this] at hk; cases hk
  rw [get_old hlt]; exact hk

/-- The body hands out a plain value and has left old memory alone. -/
theorem ret_plain (hN : ∀ k, N ≤ k → G k = .free) {rs : List ResultVar} (vs : List AV) (hr : resAll P T ⟨G, N, L⟩ rs vs) (hv : NoIds (resOf vs)) : retS P rs G N (resOf vs) [] .ret T ⟨G, N, L⟩ :=
  ⟨vs, id, hr, Final.plain hN hv⟩
theorem ret_plain' (hN : ∀ k, N ≤ k → G k = .free) {rs : List ResultVar} {val : AV} (vs : List AV) (hr : resAll P T ⟨G, N, L⟩ rs vs) (he : resOf vs = val) (hv : NoIds val) : retS P rs G N val [] .ret T ⟨G, N, L⟩ := by
  subst he; exact ret_plain hN vs hr hv
theorem ret_cell (hN : ∀ k, N ≤ k → G k = .free) {t : Tmp} {x : Cell} (ht : rd T t = .c x) (hx : x.ids = []) : retS P [.tmp t] G N (.c x) [] .ret T ⟨G, N, L⟩ :=
  ret_plain (vs := [.c x]) hN (rs := [.tmp t]) ⟨ht.symm, trivial⟩ (.c hx)

/-- New objects: by the caller's names, the places where they lie, their cells. -/
def newsW (ns : List (Nat × Nat × List Cell)) : List (Nat × Slot) := ns.map fun x => (x.1, .live ⟨x.2.2, true⟩)
def nameOf (N : Nat) : List (Nat × Nat × List Cell) → Nat → Nat
  | [], k => k
  | (n, j, _) :: ns, k => if k = n then nid N j else nameOf N ns k

theorem nameOf_out {N : Nat} : ∀ {ns : List (Nat × Nat × List Cell)} {k : Nat}, (∀ x ∈ ns, x.1 ≠ k) → nameOf N ns k = k
  | [], _, _ => rfl
  | (n, j, cs) :: ns, k, h => by
    have h1 := h (n, j, cs) (by simp)
    simp only [nameOf]
    rw [if_neg (fun e => h1 e.symm)]
    exact nameOf_out fun x hx => h x (by simp [hx])
theorem putsG_news {G : Heap} : ∀ (ns : List (Nat × Nat × List Cell)) (G : Heap) {k : Nat}, (∀ x ∈ ns, x.1 ≠ k) → putsG G (newsW ns) k = G k
  | [], _, _, _ => rfl
  | (n, j, cs) :: ns, G, k, h => by
    have h1 := h (n, j, cs) (by simp)
    show putsG (upd G n _) (newsW ns) k = G k
    rw [putsG_news (G := G) ns _ fun x hx => h x (by simp [hx]), upd_ne _ _ (fun e => h1 e.symm)]
theorem putsG_new_at : ∀ {ns : List (Nat × Nat × List Cell)} (G : Heap), (ns.map (·.1)).Nodup → ∀ x ∈ ns, putsG G (newsW ns) x.1 = .live ⟨x.2.2, true⟩ ∧ nameOf N ns x.1 = nid N x.2.1
  | [], _, _, x, hx => by cases hx
  | (n, j, cs) :: ns, G, hnd, x, hx => by
    simp only [List.map_cons, List.nodup_cons] at hnd
    rcases List.mem_cons.1 hx with rfl | hx
    · have hout : ∀ x ∈ ns, x.1 ≠ n := fun y hy e => hnd.1 (by rw [← e]; exact List.mem_map_of_mem hy)
      refine ⟨?_, by simp [nameOf]⟩
      show putsG (upd G n _) (newsW ns) n = _
      rw [putsG_news (G := G) ns _ hout, upd_same]
    · have hne : x.1 ≠ n := fun e => hnd.1 (by rw [← e]; exact List.mem_map_of_mem hx)
      obtain ⟨h1, h2⟩ := putsG_new_at (upd G n (.live ⟨cs, true⟩)) hnd.2 x hx
      exact ⟨h1, by simp only [nameOf]; rw [if_neg hne]; exact h2⟩

theorem Final.news (hN : ∀ k, N ≤ k → G k = .free) (ns : List (Nat × Nat × List Cell)) (hnd : (ns.map (·.1)).Nodup) (hjd : (ns.map (·.2.1)).Nodup) (hfree : ∀ x ∈ ns, G x.1 = .free)
    (hL : ∀ x ∈ ns, gd L x.2.1 = .live ⟨x.2.2.map (Cell.mapIds (nameOf N ns)), true⟩) (hids : ∀ x ∈ ns, ∀ c ∈ x.2.2, ∀ i ∈ c.ids, i ∈ ns.map (·.1))
    {val r : AV} (hv : Named (nameOf N ns) (fun i => i ∈ ns.map (·.1)) val r) : Final G N ⟨G, N, L⟩ r val (newsW ns) (nameOf N ns) := by
  have hnf : ∀ i ∈ ns.map (·.1), putsG G (newsW ns) i ≠ .free := by
    intro i hi
    obtain ⟨x, hx, rfl⟩ := List.mem_map.1 hi
    rw [(putsG_new_at (N := N) G hnd x hx).1]; simp
  have cases' : ∀ k, (∃ x ∈ ns, x.1 = k) ∨ ∀ x ∈ ns, x.1 ≠ k := by
    intro k
    by_cases h : ∃ x ∈ ns, x.1 = k
    · exact .inl h
    · exact .inr fun x hx e => h ⟨x, hx, e⟩
  have old : ∀ k, G k ≠ .free → ∀ x ∈ ns, x.1 ≠ k := fun k hk x hx e => hk (by rw [← e]; exact hfree x hx)
  have oldlt : ∀ k, G k ≠ .free → k < N := by
    intro k hk
    rcases Nat.lt_or_ge k N with h | h
    · exact h
    · exact absurd (hN k h) hk
  refine ⟨fun k hk => nameOf_out (old k hk), fun k o hk => ?_, fun k hk => ?_, fun k k' o o' hk hk' _ _ hne => ?_, ?_⟩
  · rcases cases' k with ⟨x, hx, rfl⟩ | hout
    · obtain ⟨h1, h2⟩ := putsG_new_at (N := N) G hnd x hx
      rw [h1] at hk
      cases hk
      right
      rw [h2, get_new]
      exact ⟨hL x hx, fun c hc i hi _ => hnf i (hids x hx c hc i hi)⟩
    · rw [putsG_news (G := G) ns G hout] at hk
      left
      exact ⟨hk, by rw [get_old (oldlt k (by rw [hk]; simp))]; exact hk⟩
  · rw [putsG_news (G := G) ns G (old k hk)]; exact hk
  · rcases cases' k with ⟨x, hx, rfl⟩ | hout <;> rcases cases' k' with ⟨x', hx', rfl⟩ | hout'
    · rw [(putsG_new_at (N := N) G hnd x hx).2, (putsG_new_at (N := N) G hnd x' hx').2]
      intro e
      have e' : x.2.1 = x'.2.1 := by unfold nid at e; omega
      -- the same place, the same entry
      have : ∀ {ns : List (Nat × Nat × List Cell)}, (ns.map (·.2.1)).Nodup → ∀ x ∈ ns, ∀ y ∈ ns, x.2.1 = y.2.1 → x = y := by
        intro ns
        induction ns with
        | nil => intro _ x hx; cases hx
        | cons z ns ih =>
          intro hd x hx y hy e
          simp only [List.map_cons, List.nodup_cons] at hd
          have m : ∀ {w : Nat × Nat × List Cell}, w ∈ ns → w.2.1 ≠ z.2.1 := fun hw e => hd.1 (by rw [← e]; exact List.mem_map_of_mem (f := fun x : Nat × Nat × List Cell => x.2.1) hw)
          rcases List.mem_cons.1 hx with hx1 | hx1 <;> rcases List.mem_cons.1 hy with hy1 | hy1
          · rw [hx1, hy1]
          · exact absurd (by rw [← e, hx1]) (m hy1)
          · exact absurd (by rw [e, hy1]) (m hx1)
          · exact ih hd.2 x hx1 y hy1 e
      exact hne (by rw [this hjd x hx x' hx' e'])
    · rw [putsG_news (G := G) ns G hout'] at hk'
      have hlt := oldlt k' (by rw [hk']; simp)
      rw [(putsG_new_at (N := N) G hnd x hx).2, nameOf_out hout']
      unfold nid; omega
    · rw [putsG_news (G := G) ns G hout] at hk
      have hlt := oldlt k (by rw [hk]; simp)
      rw [(putsG_new_at (N := N) G hnd x' hx').2, nameOf_out hout]
      unfold nid; omega
    · rw [nameOf_out hout, nameOf_out hout']; exact hne
  · have key : ∀ {x y : AV}, Named (nameOf N ns) (fun i => i ∈ ns.map (·.1)) x y → Named (nameOf N ns) (fun i => (⟨G, N, L⟩ : AHeap).get (nameOf N ns i) ≠ .free → putsG G (newsW ns) i ≠ .free) x y := by
      intro x y h
      induction h with
      | c hok => exact .c fun i hi _ => hnf i (hok i hi)
      | agg hok => exact .agg fun c hc i hi _ => hnf i (hok c hc i hi)
      | tup hl _ ih => exact .tup hl ih
      | any => exact .any
    exact key hv

theorem ret_news (hN : ∀ k, N ≤ k → G k = .free) (ns : List (Nat × Nat × List Cell)) (hnd : (ns.map (·.1)).Nodup) (hjd : (ns.map (·.2.1)).Nodup) (hfree : ∀ x ∈ ns, G x.1 = .free)
    (hL : ∀ x ∈ ns, gd L x.2.1 = .live ⟨x.2.2.map (Cell.mapIds (nameOf N ns)), true⟩) (hids : ∀ x ∈ ns, ∀ c ∈ x.2.2, ∀ i ∈ c.ids, i ∈ ns.map (·.1)) {rs : List ResultVar} {val : AV} (vs : List AV) (hr : resAll P T ⟨G, N, L⟩ rs vs)
    (hv : Named (nameOf N ns) (fun i => i ∈ ns.map (·.1)) val (resOf vs)) : retS P rs G N val (newsW ns) .ret T ⟨G, N, L⟩ :=
  ⟨vs, nameOf N ns, hr, Final.news hN ns hnd hjd hfree hL hids hv⟩

/-- One new object of plain cells. -/
theorem ret_new1 (hN : ∀ k, N ≤ k → G k = .free) (n j : Nat) (cs : List Cell) (hn : G n = .free) (hL : gd L j = .live ⟨cs, true⟩) (hc : flat cs) {rs : List ResultVar} {val : AV} (vs : List AV) (hr : resAll P T ⟨G, N, L⟩ rs vs)
    (hv : Named (nameOf N [(n, j, cs)]) (fun i => i = n) val (resOf vs)) : retS P rs G N val [(n, .live ⟨cs, true⟩)] .ret T ⟨G, N, L⟩ := by
  have h := ret_news (P := P) (T := T) (L := L) hN [(n, j, cs)] (by simp) (by simp) (by simpa using hn) (by simp only [List.mem_singleton]; rintro x rfl; rw [map_flat hc]; exact hL)
    (by simp only [List.mem_singleton]; rintro x rfl c hcc i hi; rw [hc c hcc] at hi; cases hi) (rs := rs) (val := val) vs hr (by
      have key : ∀ {x y : AV}, Named (nameOf N [(n, j, cs)]) (fun i => i = n) x y → Named (nameOf N [(n, j, cs)]) (fun i => i ∈ [(n, j, cs)].map (·.1)) x y := by
        intro x y h
        induction h with
        | c hok => exact .c fun i hi => by simpa using hok i hi
        | agg hok => exact .agg fun c hc i hi => by simpa using hok c hc i hi
        | tup hl _ ih => exact .tup hl ih
        | any => exact .any
      exact key hv)
  exact h
end
end Go.Abs
