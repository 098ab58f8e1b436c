/- Rows written in place by a body that is handed them. -/
import Derived.Test.YtcmmbnhdfkcpdaaRG
namespace Go.Abs
set_option linter.unusedVariables false
@[go_sem] theorem splice_rowC {ks : List Nat} {m i k : Nat} (h : i < ks.length) : splice (rowC ks m) i [.slice k 0 m 1] = rowC (ks.set i k) m := by
  simp only [splice, rowC, List.length_cons, List.length_nil]
  rw [← List.map_take, ← List.map_drop, List.set_eq_take_append_cons_drop, if_pos h]
  simp
theorem updG2 {α : Type} (f : Nat → α) (k : Nat) (a b : α) : upd (upd f k a) k b = upd f k b := by
  funext j; simp only [upd]; split <;> rfl
theorem swapL_mem {js : List Nat} {a b : Nat} (ha : a < js.length) (hb : b < js.length) {j : Nat} (hj : j ∈ swapL js a b 0) : j ∈ js := by
  rcases List.mem_or_eq_of_mem_set hj with h1 | h1
  · rcases List.mem_or_eq_of_mem_set h1 with h2 | h2
    · exact h2
    · rw [h2]; exact getD_mem hb
  · rw [h1]; exact getD_mem ha
theorem swapL_nodup {js : List Nat} (hn : js.Nodup) {a b : Nat} (ha : a < js.length) (hb : b < js.length) : (swapL js a b 0).Nodup := by
  rw [List.nodup_iff_pairwise_ne, List.pairwise_iff_getElem]
  intro i j hi hj hij e
  have hi' : i < js.length := by simpa [swapL_length] using hi
  have hj' : j < js.length := by simpa [swapL_length] using hj
  have e2 : (swapL js a b 0).getD i 0 = (swapL js a b 0).getD j 0 := by
    simp only [List.getD_eq_getElem?_getD, List.getElem?_eq_getElem hi, List.getElem?_eq_getElem hj, Option.getD_some]; exact e
  rw [swapL_get ha hb, swapL_get ha hb] at e2
  have := getD_inj hn (swap_lt ha hb hi') (swap_lt ha hb hj') e2
  split at this <;> split at this <;> (try split at this) <;> (try split at this) <;> omega
theorem swapL_map {js : List Nat} {a b : Nat} (ha : a < js.length) (hb : b < js.length) (N : Nat) : swapL (js.map (nid N)) a b 0 = (swapL js a b 0).map (nid N) := by
  have e : ∀ i, i < js.length → (js.map (nid N)).getD i 0 = nid N (js.getD i 0) := fun i hi => by simp [List.getD_eq_getElem?_getD, hi]
  rw [swapL, swapL, e b hb, e a ha, List.map_set, List.map_set]
/-- The rows, and all else as it was. -/
structure GRows (N : Nat) (G G' : Heap) (a : Nat) (ks : List Nat) (w : Nat) (R : List (List Int)) : Prop where
  hd : G' a = .live ⟨rowC ks w, true⟩
  row : ∀ i, i < R.length → G' (ks.getD i 0) = .live ⟨i64s (R.getD i []), true⟩
  out : ∀ k, k ≠ a → k ∉ ks → G' k = G k
  len : ks.length = R.length
  na : a ∉ ks
  nd : ks.Nodup
  old : ∀ k, k = a ∨ k ∈ ks → k < N ∧ G k ≠ .free
section
variable {P : Program} {N : Nat} {G G' : Heap} {a w : Nat} {ks : List Nat} {R : List (List Int)}
theorem rowsR_start (hl : ks.length = R.length) (hnd : (a :: ks).Nodup) (hr : ∀ p ∈ (a, (⟨rowC ks w, true⟩ : AObj)) :: rowsR ks R, G p.1 = .live p.2 ∧ p.1 < N) : GRows N G G a ks w R := by
  have hnd' := List.nodup_cons.1 hnd
  have h0 := hr _ List.mem_cons_self
  have hrow : ∀ i, i < R.length → G (ks.getD i 0) = .live ⟨i64s (R.getD i []), true⟩ ∧ ks.getD i 0 < N := fun i hi => hr _ (List.mem_cons_of_mem _ (rowsR_get hl i hi))
  refine ⟨h0.1, fun i hi => (hrow i hi).1, fun _ _ _ => rfl, hl, hnd'.1, hnd'.2, fun k hk => ?_⟩
  rcases hk with rfl | hk
  · exact ⟨h0.2, by rw [h0.1]; simp⟩
  · obtain ⟨i, hi, rfl⟩ := List.mem_iff_getElem.1 hk
    have e : ks[i] = ks.getD i 0 := by simp [List.getD_eq_getElem?_getD, hi]
    have := hrow i (by omega)
    rw [e]
    exact ⟨this.2, by rw [this.1]; simp⟩
theorem GRows.lt (h : GRows N G G' a ks w R) {i : Nat} (hi : i < R.length) : ks.getD i 0 < N ∧ ks.getD i 0 ≠ a := by
  have hm : ks.getD i 0 ∈ ks := getD_mem (by rw [h.len]; exact hi)
  exact ⟨(h.old _ (.inr hm)).1, fun e => h.na (e ▸ hm)⟩
theorem GRows.set (h : GRows N G G' a ks w R) {i : Nat} (hi : i < R.length) (r : List Int) : GRows N G (upd G' (ks.getD i 0) (.live ⟨i64s r, true⟩)) a ks w (R.set i r) := by
  have hl := h.len
  have hne := (h.lt hi).2
  refine ⟨by rw [upd_ne _ _ hne.symm]; exact h.hd, fun t ht => ?_, fun k h1 h2 => ?_, by simpa using h.len, h.na, h.nd, h.old⟩
  · rw [List.length_set] at ht
    rw [getD_set hi]
    by_cases e : t = i
    · subst e; rw [if_pos rfl, upd_same]
    · rw [if_neg e, upd_ne _ _ (fun e' => e (getD_inj h.nd (by omega) (by omega) e')), h.row t ht]
  · rw [upd_ne _ _ (fun e => h2 (by rw [e]; exact getD_mem (by omega)))]; exact h.out k h1 h2
theorem GRows.swap (h : GRows N G G' a ks w R) {x y : Nat} (hx : x < R.length) (hy : y < R.length) : GRows N G (upd G' a (.live ⟨rowC (swapL ks x y 0) w, true⟩)) a (swapL ks x y 0) w (swapL R x y []) := by
  have hl := h.len
  have hx' : x < ks.length := by omega
  have hy' : y < ks.length := by omega
  have mem : ∀ j, j ∈ swapL ks x y 0 → j ∈ ks := fun j hj => swapL_mem hx' hy' hj
  have mem' : ∀ j, j ∈ ks → j ∈ swapL ks x y 0 := by
    intro j hj
    obtain ⟨i, hi, rfl⟩ := List.mem_iff_getElem.1 hj
    have e : ks[i] = (swapL ks x y 0).getD (if i = y then x else if i = x then y else i) 0 := by
      rw [swapL_get hx' hy']
      rw [show (if (if i = y then x else if i = x then y else i) = y then x else if (if i = y then x else if i = x then y else i) = x then y else (if i = y then x else if i = x then y else i)) = i by
        split <;> split <;> (try split at *) <;> omega]
      simp [List.getD_eq_getElem?_getD, hi]
    rw [e]
    exact getD_mem (by rw [swapL_length]; exact swap_lt hx' hy' hi)
  refine ⟨upd_same _ _ _, fun i hi => ?_, fun k h1 h2 => ?_, by simp [swapL_length, hl], fun hm => h.na (mem _ hm), swapL_nodup h.nd hx' hy', fun k hk => h.old k (hk.imp id (mem k))⟩
  · rw [swapL_length] at hi
    rw [swapL_get hx' hy', swapL_get hx hy]
    have hlt := swap_lt hx hy hi
    rw [upd_ne _ _ (h.lt hlt).2]
    exact h.row _ hlt
  · rw [upd_ne _ _ h1]
    exact h.out k h1 fun hm => h2 (mem' k hm)
theorem rowsW_ids (hl : ks.length = R.length) : idsW (rowsW ks R) = ks := by
  induction ks generalizing R with
  | nil => cases R <;> rfl
  | cons k ks ih =>
    cases R with
    | nil => simp at hl
    | cons r R =>
      have := ih (R := R) (by simpa using hl)
      simp only [idsW] at this
      simp [rowsW, idsW, this]
theorem putsG_rowsW (hl : ks.length = R.length) (hnd : ks.Nodup) (G : Heap) : ∀ i, i < R.length → putsG G (rowsW ks R) (ks.getD i 0) = .live ⟨i64s (R.getD i []), true⟩ := by
  induction ks generalizing R G with
  | nil => intro i hi; cases R <;> simp at hl hi
  | cons k ks ih =>
    cases R with
    | nil => simp at hl
    | cons r R =>
      have hnd' := List.nodup_cons.1 hnd
      have hl' : ks.length = R.length := by simpa using hl
      intro i hi
      cases i with
      | zero =>
        show putsG (upd G k _) (rowsW ks R) k = _
        rw [putsG_out _ _ (by rw [rowsW_ids hl']; exact hnd'.1), upd_same]
        rfl
      | succ i =>
        have := ih hl' hnd'.2 (upd G k (.live ⟨i64s r, true⟩)) i (by simpa using hi)
        exact this
theorem GRows.eq (h : GRows N G G' a ks w R) : G' = putsG G ((a, .live ⟨rowC ks w, true⟩) :: rowsW ks R) := by
  have hl := h.len
  funext k
  show _ = putsG (upd G a _) (rowsW ks R) k
  by_cases e : k ∈ ks
  · obtain ⟨i, hi, rfl⟩ := List.mem_iff_getElem.1 e
    have e2 : ks[i] = ks.getD i 0 := by simp [List.getD_eq_getElem?_getD, hi]
    rw [e2, putsG_rowsW hl h.nd _ i (by omega), h.row i (by omega)]
  · rw [putsG_out _ _ (by rw [rowsW_ids hl]; exact e)]
    by_cases e2 : k = a
    · subst e2; rw [upd_same]; exact h.hd
    · rw [upd_ne _ _ e2]; exact h.out k e2 e
theorem GRows.ok (h : GRows N G G' a ks w R) : OldOk G N ((a, .live ⟨rowC ks w, true⟩) :: rowsW ks R) := by
  have hl := h.len
  intro q hq
  rcases List.mem_cons.1 hq with rfl | hq
  · obtain ⟨h1, h2⟩ := h.old a (.inl rfl)
    refine ⟨h1, h2, by simp, fun o ho c hc i hi => ?_⟩
    cases ho
    simp only [rowC, List.mem_map] at hc
    obtain ⟨y, hy, rfl⟩ := hc
    simp only [Cell.ids, List.mem_singleton] at hi
    subst hi
    exact h.old _ (.inr hy)
  · obtain ⟨i, h1, rfl⟩ := rowsW_mem hl q hq
    obtain ⟨h3, h4⟩ := h.old (ks.getD i 0) (.inr (getD_mem (by omega)))
    refine ⟨h3, h4, by simp, fun o ho c hc j hj => ?_⟩
    cases ho
    rw [flat64 _ c hc] at hj
    cases hj
theorem rd_rowsG {L : List Slot} {q c : Nat} {own : Bool} (h : GRows N G G' a ks w R) (hq : gd L q = .live ⟨[.int .i64 (c : Nat)], own⟩) :
    ∀ p ∈ (a, (⟨rowC ks w, true⟩ : AObj)) :: (nid N q, ⟨[.int .i64 (c : Nat)], own⟩) :: rowsR ks R, (⟨G', N, L⟩ : AHeap).get p.1 = .live p.2 := by
  intro p hp
  rcases List.mem_cons.1 hp with rfl | hp
  · exact (get_old (h.old a (.inl rfl)).1).trans h.hd
  · rcases List.mem_cons.1 hp with rfl | hp
    · dsimp only; rw [get_new]; exact hq
    · obtain ⟨i, hi, rfl⟩ := rowsR_mem h.len p hp
      exact (get_old (h.lt hi).1).trans (h.row i hi)
end
end Go.Abs
