/- Rows as new objects, handed out and taken over; rows written in place. -/
import Derived.Test.YtcmmbnhdfkcpdaaS1
namespace Go.Abs
set_option linter.unusedVariables false
def rowsW : List Nat → List (List Int) → List (Nat × Slot)
  | y :: ys, r :: R => (y, .live ⟨i64s r, true⟩) :: rowsW ys R
  | _, _ => []
def rowsR : List Nat → List (List Int) → List (Nat × AObj)
  | y :: ys, r :: R => (y, ⟨i64s r, true⟩) :: rowsR ys R
  | _, _ => []
def rowsN : List Nat → List Nat → List (List Int) → List (Nat × Nat × List Cell)
  | y :: ys, j :: js, r :: R => (y, j, i64s r) :: rowsN ys js R
  | _, _, _ => []
theorem rowsN_W : ∀ {ys js : List Nat} {R : List (List Int)}, ys.length = js.length → newsW (rowsN ys js R) = rowsW ys R
  | [], [], R, _ => by cases R <;> rfl
  | y :: ys, j :: js, [], _ => rfl
  | y :: ys, j :: js, r :: R, h => by
    have := rowsN_W (ys := ys) (js := js) (R := R) (by simpa using h)
    simp only [newsW] at this
    simp [rowsN, rowsW, newsW, this]
  | [], _ :: _, _, h => by simp at h
  | _ :: _, [], _, h => by simp at h
theorem rowsN_1 : ∀ {ys js : List Nat} {R : List (List Int)}, ys.length = R.length → js.length = R.length → (rowsN ys js R).map (·.1) = ys ∧ (rowsN ys js R).map (·.2.1) = js
  | [], [], [], _, _ => ⟨rfl, rfl⟩
  | y :: ys, j :: js, r :: R, h, h' => by
    have := rowsN_1 (ys := ys) (js := js) (R := R) (by simpa using h) (by simpa using h')
    simp [rowsN, this]
  | [], _ :: _, _, h, h' => by simp at h h'; omega
  | _ :: _, [], _, h, h' => by simp at h h'; omega
  | [], [], _ :: _, h, _ => by simp at h
  | _ :: _, _ :: _, [], h, _ => by simp at h
theorem rowsN_mem : ∀ {ys js : List Nat} {R : List (List Int)}, ys.length = R.length → js.length = R.length → ∀ e ∈ rowsN ys js R, ∃ i, i < R.length ∧ e = (ys.getD i 0, js.getD i 0, i64s (R.getD i []))
  | [], [], [], _, _, e, he => by simp [rowsN] at he
  | y :: ys, j :: js, r :: R, h, h', e, he => by
    simp only [rowsN, List.mem_cons] at he
    rcases he with rfl | he
    · exact ⟨0, by simp, rfl⟩
    · obtain ⟨i, h1, h2⟩ := rowsN_mem (ys := ys) (js := js) (R := R) (by simpa using h) (by simpa using h') e he
      exact ⟨i + 1, by simpa using h1, by simpa using h2⟩
  | [], _ :: _, _, h, h', _, _ => by simp at h h'; omega
  | _ :: _, [], _, h, h', _, _ => by simp at h h'; omega
  | [], [], _ :: _, h, _, _, _ => by simp at h
  | _ :: _, _ :: _, [], h, _, _, _ => by simp at h
theorem rowsN_get : ∀ {ys js : List Nat} {R : List (List Int)}, ys.length = R.length → js.length = R.length → ∀ i, i < R.length → (ys.getD i 0, js.getD i 0, i64s (R.getD i [])) ∈ rowsN ys js R
  | [], [], [], _, _, i, hi => by simp at hi
  | y :: ys, j :: js, r :: R, h, h', 0, hi => by simp [rowsN]
  | y :: ys, j :: js, r :: R, h, h', i + 1, hi => by
    have := rowsN_get (ys := ys) (js := js) (R := R) (by simpa using h) (by simpa using h') i (by simpa using hi)
    simpa [rowsN] using .inr this
  | [], _ :: _, _, h, h', _, _ => by simp at h h'; omega
  | _ :: _, [], _, h, h', _, _ => by simp at h h'; omega
  | [], [], _ :: _, h, _, _, _ => by simp at h
  | _ :: _, _ :: _, [], h, _, _, _ => by simp at h
theorem rowsW_mem : ∀ {ys : List Nat} {R : List (List Int)}, ys.length = R.length → ∀ e ∈ rowsW ys R, ∃ i, i < R.length ∧ e = (ys.getD i 0, .live ⟨i64s (R.getD i []), true⟩)
  | [], [], _, e, he => by simp [rowsW] at he
  | y :: ys, r :: R, h, e, he => by
    simp only [rowsW, List.mem_cons] at he
    rcases he with rfl | he
    · exact ⟨0, by simp, rfl⟩
    · obtain ⟨i, h1, h2⟩ := rowsW_mem (ys := ys) (R := R) (by simpa using h) e he
      exact ⟨i + 1, by simpa using h1, by simpa using h2⟩
  | [], _ :: _, h, _, _ => by simp at h
  | _ :: _, [], h, _, _ => by simp at h
theorem rowsR_mem : ∀ {ys : List Nat} {R : List (List Int)}, ys.length = R.length → ∀ e ∈ rowsR ys R, ∃ i, i < R.length ∧ e = (ys.getD i 0, ⟨i64s (R.getD i []), true⟩)
  | [], [], _, e, he => by simp [rowsR] at he
  | y :: ys, r :: R, h, e, he => by
    simp only [rowsR, List.mem_cons] at he
    rcases he with rfl | he
    · exact ⟨0, by simp, rfl⟩
    · obtain ⟨i, h1, h2⟩ := rowsR_mem (ys := ys) (R := R) (by simpa using h) e he
      exact ⟨i + 1, by simpa using h1, by simpa using h2⟩
  | [], _ :: _, h, _, _ => by simp at h
  | _ :: _, [], h, _, _ => by simp at h
theorem rowsR_get : ∀ {ys : List Nat} {R : List (List Int)}, ys.length = R.length → ∀ i, i < R.length → (ys.getD i 0, (⟨i64s (R.getD i []), true⟩ : AObj)) ∈ rowsR ys R
  | [], [], _, i, hi => by simp at hi
  | y :: ys, r :: R, h, 0, hi => by simp [rowsR]
  | y :: ys, r :: R, h, i + 1, hi => by
    have := rowsR_get (ys := ys) (R := R) (by simpa using h) i (by simpa using hi)
    simpa [rowsR] using .inr this
  | [], _ :: _, h, _, _ => by simp at h
  | _ :: _, [], h, _, _ => by simp at h
theorem rowC_eq {ys : List Nat} {w : Nat} {σ : Nat → Nat} {N : Nat} {js : List Nat} (hl : ys.length = js.length) (h : ∀ i, i < js.length → σ (ys.getD i 0) = nid N (js.getD i 0)) : (rowC ys w).map (Cell.mapIds σ) = rowN N js w := by
  apply List.ext_getElem?
  intro i
  by_cases hi : i < js.length
  · have h1 := h i hi
    have hi' : i < ys.length := by omega
    simp only [List.getD_eq_getElem?_getD, List.getElem?_eq_getElem hi, List.getElem?_eq_getElem hi', Option.getD_some] at h1
    simp [rowC, rowN, List.getElem?_eq_getElem hi, List.getElem?_eq_getElem hi', Cell.mapIds, h1]
  · rw [List.getElem?_eq_none (by simp [rowC]; omega), List.getElem?_eq_none (by simp [rowN]; omega)]
theorem renT_congr {σ τ : Nat → Nat} {v : AV} (h : ∀ i ∈ v.idsT, σ i = τ i) : renT σ v = renT τ v := by
  have c1 : ∀ c : Cell, (∀ i ∈ c.ids, σ i = τ i) → c.mapIds σ = c.mapIds τ := by
    intro c hc
    cases c <;> simp_all [Cell.mapIds, Cell.ids]
    exact hc
  have a1 : ∀ v : AV, (∀ i ∈ v.ids1, σ i = τ i) → ren1 σ v = ren1 τ v := by
    intro v hv
    cases v with
    | c x => exact congrArg AV.c (c1 x hv)
    | agg cs => exact congrArg AV.agg (List.map_congr_left fun c hc => c1 c fun i hi => hv i (List.mem_flatMap.2 ⟨c, hc, hi⟩))
    | tup vs => rfl
    | any => rfl
  cases v with
  | tup vs => exact congrArg AV.tup (List.map_congr_left fun u hu => a1 u fun i hi => h i (List.mem_flatMap.2 ⟨u, hu, hi⟩))
  | c x => exact a1 (.c x) h
  | agg cs => exact a1 (.agg cs) h
  | any => rfl
theorem flat64 (l : List Int) : Abs.flat (i64s l) := by
  intro c hc
  obtain ⟨z, _, rfl⟩ := List.mem_map.1 hc
  rfl
section
variable {P : Program} {G : Heap} {N : Nat} {L : List Slot} {T : List AV}
theorem ret_rows (hN : ∀ k, N ≤ k → G k = .free) (x jx : Nat) (ys js : List Nat) (w : Nat) (R : List (List Int)) (hnd : (x :: ys).Nodup) (hx0 : G x = .free) (hy0 : ∀ y ∈ ys, G y = .free) (hyl : ys.length = R.length) (hx : gd L jx = .live ⟨rowN N js w, true⟩) (hR : Rows L js R) (hj : jx ∉ js)
    {rs : List ResultVar} {val : AV} (vs : List AV) (hr : resAll P T ⟨G, N, L⟩ rs vs) (hp : plainT val = true) (hi : ∀ i ∈ val.idsT, i = x) (he : resOf vs = renT (fun k => if k = x then nid N jx else k) val) : retS P rs G N val ((x, .live ⟨rowC ys w, true⟩) :: rowsW ys R) .ret T ⟨G, N, L⟩ := by
  have hjl := hR.len
  obtain ⟨e1, e2⟩ := rowsN_1 hyl hjl
  have hW := rowsN_W (R := R) (hyl.trans hjl.symm)
  let ns : List (Nat × Nat × List Cell) := (x, jx, rowC ys w) :: rowsN ys js R
  have hns : newsW ns = (x, .live ⟨rowC ys w, true⟩) :: rowsW ys R := by rw [← hW]; rfl
  have n1 : ns.map (·.1) = x :: ys := by simp [ns, e1]
  have n2 : ns.map (·.2.1) = jx :: js := by simp [ns, e2]
  have hat : ∀ i, i < R.length → nameOf N ns (ys.getD i 0) = nid N (js.getD i 0) := fun i hi =>
    (putsG_new_at (N := N) (fun _ => .free) (by rw [n1]; exact hnd) _ (List.mem_cons_of_mem _ (rowsN_get hyl hjl i hi))).2
  rw [← hns]
  refine ret_news hN ns (by rw [n1]; exact hnd) (by rw [n2]; exact List.nodup_cons.2 ⟨hj, hR.nd⟩) (fun e he => ?_) (fun e he => ?_) (fun e he c hc i hi' => ?_) vs hr ?_
  · rcases List.mem_cons.1 he with rfl | he
    · exact hx0
    · obtain ⟨i, h1, rfl⟩ := rowsN_mem hyl hjl e he
      exact hy0 _ (getD_mem (by omega))
  · rcases List.mem_cons.1 he with rfl | he
    · rw [hx, rowC_eq (hyl.trans hjl.symm) fun i hi => hat i (by omega)]
    · obtain ⟨i, h1, rfl⟩ := rowsN_mem hyl hjl e he
      rw [map_flat (flat64 _)]
      exact hR.at_ i h1
  · rw [n1]
    rcases List.mem_cons.1 he with rfl | he
    · simp only [rowC, List.mem_map] at hc
      obtain ⟨y, hy, rfl⟩ := hc
      simp only [Cell.ids, List.mem_singleton] at hi'
      subst hi'
      exact List.mem_cons_of_mem _ hy
    · obtain ⟨t, h1, rfl⟩ := rowsN_mem hyl hjl e he
      rw [flat64 _ c hc] at hi'
      cases hi'
  · rw [he, ← renT_congr (σ := nameOf N ns) fun i hh => by rw [hi i hh]; simp [ns, nameOf]]
    exact Named.of hp fun i hh => by rw [n1, hi i hh]; exact List.mem_cons_self

/-- Rows put at slots of one's own. -/
theorem puts_rows : ∀ {js : List Nat} {R : List (List Int)} {L : List Slot}, js.length = R.length → js.Nodup → ∃ L', (⟨G, N, L⟩ : AHeap).puts (rowsW (js.map (nid N)) R) = ⟨G, N, L'⟩ ∧ L.length ≤ L'.length ∧ (∀ m, L.length ≤ m → (∀ j ∈ js, j < m) → L'.length ≤ m) ∧ Rows L' js R ∧ ∀ j, j ∉ js → gd L' j = gd L j
  | [], [], L, _, _ => ⟨L, rfl, Nat.le_refl _, fun m h _ => h, Rows.nil, fun _ _ => rfl⟩
  | j :: js, r :: R, L, hl, hnd => by
    have hnd' := List.nodup_cons.1 hnd
    obtain ⟨L', h1, h2, h3, h4, h5⟩ := puts_rows (js := js) (R := R) (L := setAt L j (.live ⟨i64s r, true⟩)) (by simpa using hl) hnd'.2
    have hj : gd L' j = .live ⟨i64s r, true⟩ := by rw [h5 j hnd'.1, gd_setAt_same]
    rw [setAt_length] at h2 h3
    refine ⟨L', ?_, by omega, fun m hm hjs => h3 m ?_ fun i hi => hjs i (List.mem_cons_of_mem _ hi), ?_, fun i hi => ?_⟩
    · rw [List.map_cons, rowsW, puts_cons, put_new]; exact h1
    · have := hjs j List.mem_cons_self; omega
    · have hlen := h4.len
      refine ⟨by simpa using hl, hnd, fun i hi => ?_, fun i hi => ?_⟩
      · rcases List.mem_cons.1 hi with rfl | hi
        · omega
        · exact h4.lt i hi
      · cases i with
        | zero => exact hj
        | succ i => exact h4.at_ i (by simpa using hi)
    · simp only [List.mem_cons, not_or] at hi
      rw [h5 i hi.2, gd_setAt_ne' hi.1]
  | [], _ :: _, _, h, _ => by simp at h
  | _ :: _, [], _, h, _ => by simp at h
theorem rowN_rowC (js : List Nat) (w : Nat) : rowC (js.map (nid N)) w = rowN N js w := by simp [rowC, rowN]
theorem puts_rowsX {js : List Nat} {R : List (List Int)} {jx w : Nat} (hl : js.length = R.length) (hnd : (jx :: js).Nodup) : ∃ L', (⟨G, N, L⟩ : AHeap).puts ((nid N jx, .live ⟨rowC (js.map (nid N)) w, true⟩) :: rowsW (js.map (nid N)) R) = ⟨G, N, L'⟩ ∧ L.length ≤ L'.length ∧ (∀ m, L.length ≤ m → (∀ j ∈ jx :: js, j < m) → L'.length ≤ m) ∧ gd L' jx = .live ⟨rowN N js w, true⟩ ∧ Rows L' js R ∧ ∀ j, j ∉ jx :: js → gd L' j = gd L j := by
  have hnd' := List.nodup_cons.1 hnd
  obtain ⟨L', h1, h2, h3, h4, h5⟩ := puts_rows (G := G) (N := N) (L := setAt L jx (.live ⟨rowN N js w, true⟩)) hl hnd'.2
  rw [setAt_length] at h2 h3
  refine ⟨L', ?_, by omega, fun m hm hjs => h3 m ?_ fun i hi => hjs i (List.mem_cons_of_mem _ hi), by rw [h5 _ hnd'.1, gd_setAt_same], h4, fun i hi => ?_⟩
  · rw [rowN_rowC, puts_cons, put_new]; exact h1
  · have := hjs jx List.mem_cons_self; omega
  · simp only [List.mem_cons, not_or] at hi
    rw [h5 i hi.2, gd_setAt_ne' hi.1]
/-- The next places. -/
def nextJ (L : List Slot) (n : Nat) : List Nat := (List.range n).map (L.length + 1 + ·)
theorem nextJ_len (L : List Slot) (n : Nat) : (nextJ L n).length = n := by simp [nextJ]
theorem nextJ_mem {L : List Slot} {n j : Nat} (h : j ∈ nextJ L n) : L.length < j ∧ j < L.length + 1 + n := by
  simp only [nextJ, List.mem_map, List.mem_range] at h; obtain ⟨i, h1, rfl⟩ := h; omega
theorem nextJ_get {L : List Slot} {n i : Nat} (h : i < n) : (nextJ L n).getD i 0 = L.length + 1 + i := by simp [nextJ, List.getD_eq_getElem?_getD, h]
theorem nextJ_nd (L : List Slot) (n : Nat) : (L.length :: nextJ L n).Nodup := by
  refine List.nodup_cons.2 ⟨fun h => by have := nextJ_mem h; omega, ?_⟩
  rw [List.nodup_iff_pairwise_ne, nextJ, List.pairwise_map]
  exact (List.nodup_iff_pairwise_ne.1 List.nodup_range).imp fun h => by omega
/-- A call that hands out rows. -/
theorem call_rows {f : FuncId} {args : List AV} {K : Kont} {val : Nat → AV} {rs : List (Nat × AObj)} {w : Nat} {R : List (List Int)}
    (hs : ∀ x ys, (x :: ys).Nodup → ys.length = R.length → (∀ p ∈ rs, p.1 ≠ x ∧ p.1 ∉ ys) → FSpec P f args (val x) rs ((x, .live ⟨rowC ys w, true⟩) :: rowsW ys R)) (h1 : ∀ p ∈ rs, (⟨G, N, L⟩ : AHeap).get p.1 = .live p.2)
    (hK : ∀ (ws : List (Nat × Slot)) (L' : List Slot), (∃ ids, ∀ i F, consF i rs ws F = (i, rs.map (·.1), ids) :: F) → (⟨G, N, L⟩ : AHeap).puts ws = ⟨G, N, L'⟩ → L'.length = L.length + 1 + R.length → gd L' L.length = .live ⟨rowN N (nextJ L R.length) w, true⟩ → Rows L' (nextJ L R.length) R → (∀ j, j < L.length → gd L' j = gd L j) → K (val (nid N L.length)) rs ws) :
    vCall P f args ⟨G, N, L⟩ (.mk K) := by
  have hnd := nextJ_nd L R.length
  obtain ⟨L', e1, e2, e3, e4, e5, e6⟩ := puts_rowsX (G := G) (N := N) (L := L) (w := w) (nextJ_len L R.length) hnd
  have free : ∀ j, L.length ≤ j → (⟨G, N, L⟩ : AHeap).get (nid N j) = .free := fun j hj => by rw [get_new, gd_len hj]
  have ndN : (nid N L.length :: (nextJ L R.length).map (nid N)).Nodup := by
    rw [← List.map_cons, List.nodup_iff_pairwise_ne, List.pairwise_map]
    exact (List.nodup_iff_pairwise_ne.1 hnd).imp fun h e => h (by unfold nid at e; omega)
  have out : ∀ p ∈ rs, p.1 ≠ nid N L.length ∧ p.1 ∉ (nextJ L R.length).map (nid N) := fun p hp => by
    have h2 := h1 p hp
    refine ⟨fun e => (by rw [e, free _ (Nat.le_refl _)] at h2; cases h2), fun e => ?_⟩
    obtain ⟨j, hj, e⟩ := List.mem_map.1 e
    rw [← e, free j (by have := nextJ_mem hj; omega)] at h2
    cases h2
  refine call_intro (hs _ _ ndN (by rw [List.length_map, nextJ_len]) out) h1 (fun p hp => ?_) ?_
  · right
    rcases List.mem_cons.1 hp with rfl | hp
    · exact free _ (Nat.le_refl _)
    · obtain ⟨i, h2, rfl⟩ := rowsW_mem (by rw [List.length_map, nextJ_len]) p hp
      have : ((nextJ L R.length).map (nid N)).getD i 0 ∈ (nextJ L R.length).map (nid N) := getD_mem (by rw [List.length_map, nextJ_len]; exact h2)
      obtain ⟨j, hj, e⟩ := List.mem_map.1 this
      dsimp only
      rw [← e]
      exact free j (by have := nextJ_mem hj; omega)
  · refine hK _ L' ⟨_, fun i F => consF_rw⟩ e1 (Nat.le_antisymm (e3 _ (by omega) fun j hj => ?_) ?_) e4 e5 fun j hj => e6 j fun hm => ?_
    · rcases List.mem_cons.1 hj with rfl | hj
      · omega
      · have := nextJ_mem hj; omega
    · by_cases h0 : R.length = 0
      · have h3 : L.length < L'.length := by
          apply Classical.byContradiction
          intro hh
          rw [gd_len (by omega)] at e4
          cases e4
        omega
      · have := e5.lt ((nextJ L R.length).getD (R.length - 1) 0) (getD_mem (by rw [nextJ_len]; omega))
        rw [nextJ_get (by omega)] at this
        omega
    · rcases List.mem_cons.1 hm with rfl | hm
      · omega
      · have := nextJ_mem hm; omega
end
end Go.Abs
