/- What a body leaves, in general: old objects written, dropped, new ones handed out. -/
import Derived.Test.YtcmmbnhdfkcpdaaRW
namespace Go.Abs
set_option linter.unusedVariables false
/-! Parts of slices -/
section
variable {P : Program} {h : AHeap} {K : Kont} {t : TypeId} {k off len es : Nat} {kl kh : IntKind} {l r : Int}
theorem sliceE_of {lo hi : Option AV} (hlo : lo.getD (.c (.int .i64 0)) = .c (.int kl l)) (hhi : hi.getD (.c (.int .i64 len)) = .c (.int kh r)) : vSlice P t (.c (.slice k off len es)) lo hi none h (.mk K) = withTy P t (.mk fun ti => asSlice ti.kind (.mk fun es' eb ez => must (es = es' ∧ 0 ≤ l ∧ l ≤ r ∧ r ≤ len) (.mk (K (.c (.slice k (off + l.toNat * es) (r - l).toNat es)) [] [])))) := by
  apply propext; constructor
  · rintro ⟨ti, h1, h2⟩
    refine ⟨ti, h1, ?_⟩
    split at h2
    · rename_i es' eb ez k' off' len' es2 hk hx hm
      cases hx
      obtain ⟨rfl, kl', kh', l', r', a1, a2, a3, a4, a5, a6⟩ := h2
      rw [hlo] at a1; cases a1
      rw [hhi] at a2; cases a2
      exact ⟨es, eb, ez, hk, ⟨rfl, a3, a4, a5⟩, a6⟩
    all_goals first | (rename_i hx _; cases hx; done) | (rename_i hm; cases hm; done) | (rename_i _ hm; cases hm; done) | exact h2.elim
  · rintro ⟨ti, h1, es', eb, ez, hk, ⟨rfl, a3, a4, a5⟩, a6⟩
    refine ⟨ti, h1, ?_⟩
    rw [hk]
    exact ⟨rfl, kl, kh, l, r, hlo, hhi, a3, a4, a5, a6⟩
@[go_sem] theorem vSlice_lh : vSlice P t (.c (.slice k off len es)) (some (.c (.int kl l))) (some (.c (.int kh r))) none h (.mk K) = withTy P t (.mk fun ti => asSlice ti.kind (.mk fun es' eb ez => must (es = es' ∧ 0 ≤ l ∧ l ≤ r ∧ r ≤ len) (.mk (K (.c (.slice k (off + l.toNat * es) (r - l).toNat es)) [] [])))) := sliceE_of rfl rfl
@[go_sem] theorem vSlice_l : vSlice P t (.c (.slice k off len es)) (some (.c (.int kl l))) none none h (.mk K) = withTy P t (.mk fun ti => asSlice ti.kind (.mk fun es' eb ez => must (es = es' ∧ 0 ≤ l ∧ l ≤ len ∧ (len : Int) ≤ len) (.mk (K (.c (.slice k (off + l.toNat * es) ((len : Int) - l).toNat es)) [] [])))) := sliceE_of (l := l) (r := len) rfl rfl
@[go_sem] theorem vSlice_h : vSlice P t (.c (.slice k off len es)) none (some (.c (.int kh r))) none h (.mk K) = withTy P t (.mk fun ti => asSlice ti.kind (.mk fun es' eb ez => must (es = es' ∧ (0 : Int) ≤ 0 ∧ 0 ≤ r ∧ r ≤ len) (.mk (K (.c (.slice k (off + Int.toNat 0 * es) (r - 0).toNat es)) [] [])))) := sliceE_of (l := 0) (r := r) rfl rfl
end
attribute [go_sem] Option.map_some Option.map_none Int.toNat_natCast Int.toNat_sub Int.sub_zero Nat.zero_mul Nat.add_zero Nat.zero_add
theorem putsG_app (G : Heap) (ws vs : List (Nat × Slot)) : putsG G (ws ++ vs) = putsG (putsG G ws) vs := List.foldl_append
section
variable {P : Program} {G : Heap} {N : Nat} {L : List Slot} {T : List AV}
/-- Old objects that a body may name and keep. -/
def OldOk (G : Heap) (N : Nat) (ws : List (Nat × Slot)) : Prop := ∀ p ∈ ws, p.1 < N ∧ G p.1 ≠ .free ∧ p.2 ≠ .free ∧ ∀ o, p.2 = .live o → ∀ c ∈ o.cells, ∀ i ∈ c.ids, i < N ∧ G i ≠ .free
theorem Final.gen (hN : ∀ k, N ≤ k → G k = .free) (ws : List (Nat × Slot)) (hw : OldOk G N ws) (ns : List (Nat × Nat × List Cell)) (hnd : (ns.map (·.1)).Nodup) (hjd : (ns.map (·.2.1)).Nodup) (hfree : ∀ x ∈ ns, G x.1 = .free)
    (hL : ∀ x ∈ ns, gd L x.2.1 = .live ⟨x.2.2.map (Cell.mapIds (nameOf N ns)), true⟩) (hids : ∀ x ∈ ns, ∀ c ∈ x.2.2, ∀ i ∈ c.ids, i ∈ ns.map (·.1) ∨ G i ≠ .free)
    {val r : AV} (hv : Named (nameOf N ns) (fun i => i ∈ ns.map (·.1) ∨ G i ≠ .free) val r) : Final G N ⟨putsG G ws, N, L⟩ r val (ws ++ newsW ns) (nameOf N ns) := by
  have e0 := putsG_app G ws (newsW ns)
  have oldlt : ∀ k, G k ≠ .free → k < N := by
    intro k hk
    rcases Nat.lt_or_ge k N with h | h
    · exact h
    · exact absurd (hN k h) hk
  have wcase : ∀ k, putsG G ws k = G k ∨ ∃ p ∈ ws, p.1 = k ∧ putsG G ws k = p.2 := fun k => putsG_cases ws G k
  have wnf : ∀ k, G k ≠ .free → putsG G ws k ≠ .free := by
    intro k hk
    rcases wcase k with h | ⟨p, h1, h2, h3⟩
    · rw [h]; exact hk
    · rw [h3]; exact (hw p h1).2.2.1
  have wout : ∀ k, putsG G ws k ≠ .free → k < N := by
    intro k hk
    rcases wcase k with h | ⟨p, h1, h2, h3⟩
    · exact oldlt k (by rw [← h]; exact hk)
    · rw [← h2]; exact (hw p h1).1
  have wold : ∀ k, putsG G ws k ≠ .free → G k ≠ .free := by
    intro k hk
    rcases wcase k with h | ⟨p, h1, h2, h3⟩
    · rw [← h]; exact hk
    · rw [← h2]; exact (hw p h1).2.1
  have old : ∀ k, G k ≠ .free → ∀ x ∈ ns, x.1 ≠ k := fun k hk x hx e => hk (by rw [← e]; exact hfree x hx)
  have cases' : ∀ k, (∃ x ∈ ns, x.1 = k) ∨ ∀ x ∈ ns, x.1 ≠ k := by
    intro k
    by_cases h : ∃ x ∈ ns, x.1 = k
    · exact .inl h
    · exact .inr fun x hx e => h ⟨x, hx, e⟩
  have hnf : ∀ i, i ∈ ns.map (·.1) ∨ G i ≠ .free → putsG G (ws ++ newsW ns) i ≠ .free := by
    intro i hi
    rw [e0]
    rcases cases' i with ⟨x, hx, rfl⟩ | hout
    · rw [(putsG_new_at (N := N) (putsG G ws) hnd x hx).1]; simp
    · rw [putsG_news (G := G) ns _ hout]
      rcases hi with hi | hi
      · obtain ⟨x, hx, e⟩ := List.mem_map.1 hi
        exact absurd e (hout x hx)
      · exact wnf i hi
  have sameN : ∀ i, G i ≠ .free → nameOf N ns i = i := fun i hi => nameOf_out (old i hi)
  refine ⟨fun k hk => sameN k hk, fun k o hk => ?_, fun k hk => hnf k (.inr hk), fun k k' o o' hk hk' _ _ hne => ?_, ?_⟩
  · rw [e0] at hk
    rcases cases' k with ⟨x, hx, rfl⟩ | hout
    · obtain ⟨h1, h2⟩ := putsG_new_at (N := N) (putsG G ws) hnd x hx
      rw [h1] at hk
      cases hk
      right
      rw [h2, get_new]
      exact ⟨hL x hx, fun c hc i hi _ => hnf i (hids x hx c hc i hi)⟩
    · rw [putsG_news (G := G) ns _ hout] at hk
      have hlt : k < N := wout k (by rw [hk]; simp)
      rcases wcase k with h | ⟨p, h1, h2, h3⟩
      · left
        exact ⟨by rw [← h]; exact hk, by rw [get_old hlt]; exact hk⟩
      · right
        have hgk : G k ≠ .free := by rw [← h2]; exact (hw p h1).2.1
        have hids' := (hw p h1).2.2.2 o (by rw [← h3]; exact hk)
        rw [sameN k hgk, get_old hlt, hk]
        refine ⟨?_, fun c hc i hi _ => hnf i (.inr (hids' c hc i hi).2)⟩
        congr 1
        cases o
        congr 1
        refine ((List.map_id _).symm.trans (List.map_congr_left fun c hc => ?_))
        exact (mapIds_same fun i hi => sameN i (hids' c hc i hi).2).symm
  · rw [e0] at hk hk'
    rcases cases' k with ⟨x, hx, rfl⟩ | hout <;> rcases cases' k' with ⟨x', hx', rfl⟩ | hout'
    · rw [(putsG_new_at (N := N) (putsG G ws) hnd x hx).2, (putsG_new_at (N := N) (putsG G ws) hnd x' hx').2]
      intro e
      have e' : x.2.1 = x'.2.1 := by unfold nid at e; omega
      have : ∀ {ns : List (Nat × Nat × List Cell)}, (ns.map (·.2.1)).Nodup → ∀ x ∈ ns, ∀ y ∈ ns, x.2.1 = y.2.1 → x = y := by
        intro ns
        induction ns with
        | nil => intro _ x hx; cases hx
        | cons z ns ih =>
          intro hd x hx y hy e
          simp only [List.map_cons, List.nodup_cons] at hd
          have m : ∀ {w : Nat × Nat × List Cell}, w ∈ ns → w.2.1 ≠ z.2.1 := fun hw e => hd.1 (by rw [← e]; exact List.mem_map_of_mem (f := fun x : Nat × Nat × List Cell => x.2.1) hw)
          rcases List.mem_cons.1 hx with hx1 | hx1 <;> rcases List.mem_cons.1 hy with hy1 | hy1
          · rw [hx1, hy1]
          · exact absurd (by rw [← e, hx1]) (m hy1)
          · exact absurd (by rw [e, hy1]) (m hx1)
          · exact ih hd.2 x hx1 y hy1 e
      exact hne (by rw [this hjd x hx x' hx' e'])
    · rw [putsG_news (G := G) ns _ hout'] at hk'
      have hlt := wout k' (by rw [hk']; simp)
      rw [(putsG_new_at (N := N) (putsG G ws) hnd x hx).2, nameOf_out hout']
      unfold nid; omega
    · rw [putsG_news (G := G) ns _ hout] at hk
      have hlt := wout k (by rw [hk]; simp)
      rw [(putsG_new_at (N := N) (putsG G ws) hnd x' hx').2, nameOf_out hout]
      unfold nid; omega
    · rw [nameOf_out hout, nameOf_out hout']; exact hne
  · have key : ∀ {x y : AV}, Named (nameOf N ns) (fun i => i ∈ ns.map (·.1) ∨ G i ≠ .free) x y → Named (nameOf N ns) (fun i => (⟨putsG G ws, N, L⟩ : AHeap).get (nameOf N ns i) ≠ .free → putsG G (ws ++ newsW ns) i ≠ .free) x y := by
      intro x y h
      induction h with
      | c hok => exact .c fun i hi _ => hnf i (hok i hi)
      | agg hok => exact .agg fun c hc i hi _ => hnf i (hok c hc i hi)
      | tup hl _ ih => exact .tup hl ih
      | any => exact .any
    exact key hv
/-- Old objects written or dropped, and one new object of plain cells handed out. -/
theorem ret_mix1 (hN : ∀ k, N ≤ k → G k = .free) (ws : List (Nat × Slot)) (hw : OldOk G N ws) (n j : Nat) (cs : List Cell) {rs : List ResultVar} {val : AV} (vs : List AV) (hr : resAll P T ⟨putsG G ws, N, L⟩ rs vs) (hn : G n = .free) (hL : gd L j = .live ⟨cs, true⟩) (hc : Abs.flat cs)
    (hp : plainT val = true) (hi : ∀ i ∈ val.idsT, i = n ∨ G i ≠ .free) (he : resOf vs = renT (fun k => if k = n then nid N j else k) val) : retS P rs G N val (ws ++ [(n, .live ⟨cs, true⟩)]) .ret T ⟨putsG G ws, N, L⟩ := by
  refine ⟨vs, nameOf N [(n, j, cs)], hr, Final.gen hN ws hw [(n, j, cs)] (by simp) (by simp) (by simpa using hn) (by simp only [List.mem_singleton]; rintro x rfl; rw [map_flat hc]; exact hL)
    (by simp only [List.mem_singleton]; rintro x rfl c hcc i hi; rw [hc c hcc] at hi; cases hi) ?_⟩
  rw [he]
  exact Named.of hp fun i hh => by simpa using hi i hh
/-- Old objects written or dropped. -/
theorem ret_mix0 (hN : ∀ k, N ≤ k → G k = .free) (ws : List (Nat × Slot)) (hw : OldOk G N ws) {rs : List ResultVar} {val : AV} (vs : List AV) (hr : resAll P T ⟨putsG G ws, N, L⟩ rs vs)
    (hp : plainT val = true) (hi : ∀ i ∈ val.idsT, G i ≠ .free) (he : resOf vs = renT id val) : retS P rs G N val ws .ret T ⟨putsG G ws, N, L⟩ := by
  refine ⟨vs, id, hr, ?_⟩
  have h := Final.gen (L := L) (r := resOf vs) (val := val) hN ws hw [] (by simp) (by simp) (by simp) (by simp) (by simp) (by
    rw [he, show (nameOf N [] : Nat → Nat) = id from funext fun k => rfl]
    exact Named.of hp fun i hh => .inr (hi i hh))
  rw [show (nameOf N [] : Nat → Nat) = id from funext fun k => rfl] at h
  simpa [newsW] using h
/-- One old object written. -/
theorem ret_upd0 (hN : ∀ k, N ≤ k → G k = .free) {k : Nat} {cs : List Cell} {own : Bool} (hk : k < N) (hg : G k ≠ .free) (hc : Abs.flat cs) {rs : List ResultVar} {val : AV} (vs : List AV) (hr : resAll P T ⟨upd G k (.live ⟨cs, own⟩), N, L⟩ rs vs)
    (hp : plainT val = true) (hi : ∀ i ∈ val.idsT, G i ≠ .free) (he : resOf vs = renT id val) : retS P rs G N val [(k, .live ⟨cs, own⟩)] .ret T ⟨upd G k (.live ⟨cs, own⟩), N, L⟩ :=
  ret_mix0 hN [(k, .live ⟨cs, own⟩)] (by
    simp only [OldOk, List.mem_singleton]
    rintro p rfl
    exact ⟨hk, hg, by simp, fun o ho c hcc i hi => by cases ho; rw [hc c hcc] at hi; cases hi⟩) vs hr hp hi he
/-- One old object given up for a new one. -/
theorem ret_upd1 (hN : ∀ k, N ≤ k → G k = .free) {k : Nat} (hk : k < N) (hg : G k ≠ .free) (n j : Nat) (cs : List Cell) {rs : List ResultVar} {val : AV} (vs : List AV) (hr : resAll P T ⟨upd G k .dead, N, L⟩ rs vs) (hn : G n = .free) (hL : gd L j = .live ⟨cs, true⟩) (hc : Abs.flat cs)
    (hp : plainT val = true) (hi : ∀ i ∈ val.idsT, i = n ∨ G i ≠ .free) (he : resOf vs = renT (fun k => if k = n then nid N j else k) val) : retS P rs G N val [(k, .dead), (n, .live ⟨cs, true⟩)] .ret T ⟨upd G k .dead, N, L⟩ :=
  ret_mix1 hN [(k, .dead)] (by
    simp only [OldOk, List.mem_singleton]
    rintro p rfl
    exact ⟨hk, hg, by simp, fun o ho => by cases ho⟩) n j cs vs hr hn hL hc hp hi he
theorem oldOk_flat {k : Nat} {cs : List Cell} {own : Bool} (hk : k < N) (hg : G k ≠ .free) (hc : Abs.flat cs) : OldOk G N [(k, .live ⟨cs, own⟩)] := by
  simp only [OldOk, List.mem_singleton]
  rintro p rfl
  exact ⟨hk, hg, by simp, fun o ho c hcc i hi => by cases ho; rw [hc c hcc] at hi; cases hi⟩
theorem oldOk_dead {k : Nat} (hk : k < N) (hg : G k ≠ .free) : OldOk G N [(k, .dead)] := by
  simp only [OldOk, List.mem_singleton]
  rintro p rfl
  exact ⟨hk, hg, by simp, fun o ho => by cases ho⟩
end
end Go.Abs
