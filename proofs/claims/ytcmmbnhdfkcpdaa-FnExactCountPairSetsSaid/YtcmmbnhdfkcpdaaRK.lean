/- Calls that hand out rows. -/
import Derived.Test.YtcmmbnhdfkcpdaaRG
namespace Go.Proofs.Ytcmmbnhdfkcpdaa
open Go Go.Abs
set_option maxRecDepth 100000

set_option maxRecDepth 100000
set_option maxHeartbeats 4000000
set_option linter.unusedVariables false
attribute [-simp] List.getD_eq_getElem?_getD

theorem rows_freeK {G : Heap} {N : Nat} {rs : List (Nat × AObj)} {x : Nat} {ys : List Nat} {R : List (List Int)} {cs : List Cell} (hyl : ys.length = R.length) (hw : ∀ p ∈ ((x, Slot.live ⟨cs, true⟩) :: rowsW ys R), p.1 < N ∧ ((∃ ob, (p.1, ob) ∈ rs) ∨ G p.1 = .free)) (hx : ∀ p ∈ rs, p.1 ≠ x ∧ p.1 ∉ ys) : G x = .free ∧ ∀ y ∈ ys, G y = .free := by
  refine ⟨new_free (hw _ List.mem_cons_self).2 fun p hp => (hx p hp).1, fun y hy => ?_⟩
  obtain ⟨i, hi, rfl⟩ := List.mem_iff_getElem.1 hy
  have : ∀ {ys : List Nat} {R : List (List Int)}, ys.length = R.length → ∀ i (hi : i < ys.length), ∃ s, (ys[i], s) ∈ rowsW ys R := by
    intro ys
    induction ys with
    | nil => intro R _ i hi; simp at hi
    | cons y ys ih =>
      intro R hl i hi
      cases R with
      | nil => simp at hl
      | cons r R =>
        cases i with
        | zero => exact ⟨_, by simp [rowsW]; exact .inl rfl⟩
        | succ i =>
          obtain ⟨s, hs⟩ := ih (by simpa using hl) i (by simpa using hi)
          exact ⟨s, by simp [rowsW, hs]⟩
  obtain ⟨s, hs⟩ := this hyl i hi
  exact new_free (n := ys[i]) (hw _ (List.mem_cons_of_mem _ hs)).2 fun p hp e => (hx p hp).2 (by rw [e]; exact hy)
/-- What a call that hands out rows leaves. -/
structure NewRowsK (G : Heap) (N : Nat) (L : List Slot) (w : Nat) (R : List (List Int)) (rs : List (Nat × AObj)) (ws : List (Nat × Slot)) (L' : List Slot) (J : List Nat) : Prop where
  ids : ∃ ids, (∀ z ∈ ids, nid N L.length ≤ z) ∧ ∀ i F, consF i rs ws F = (i, rs.map (·.1), ids) :: F
  puts : (⟨G, N, L⟩ : AHeap).puts ws = ⟨G, N, L'⟩
  len : L'.length = L.length + 1 + R.length
  hd : gd L' L.length = .live ⟨rowN N J w, true⟩
  rows : Abs.Rows L' J R
  lo : ∀ j ∈ J, L.length < j
  old : ∀ j, j < L.length → gd L' j = gd L j
/-- A call that hands out rows. -/
theorem call_rowsX {P : Program} {G : Heap} {N : Nat} {L : List Slot} {f : FuncId} {args : List AV} {K : Kont} {val : Nat → AV} {rs : List (Nat × AObj)} {w : Nat} {R : List (List Int)}
    (hs : ∀ x ys, (x :: ys).Nodup → ys.length = R.length → (∀ p ∈ rs, p.1 ≠ x ∧ p.1 ∉ ys) → FSpec P f args (val x) rs ((x, .live ⟨rowC ys w, true⟩) :: rowsW ys R)) (h1 : ∀ p ∈ rs, (⟨G, N, L⟩ : AHeap).get p.1 = .live p.2)
    (hK : ∀ (ws : List (Nat × Slot)) (L' : List Slot), (∃ ids, (∀ z ∈ ids, nid N L.length ≤ z) ∧ ∀ i F, consF i rs ws F = (i, rs.map (·.1), ids) :: F) → (⟨G, N, L⟩ : AHeap).puts ws = ⟨G, N, L'⟩ → L'.length = L.length + 1 + R.length → gd L' L.length = .live ⟨rowN N (nextJ L R.length) w, true⟩ → Abs.Rows L' (nextJ L R.length) R → (∀ j, j < L.length → gd L' j = gd L j) → K (val (nid N L.length)) rs ws) :
    vCall P f args ⟨G, N, L⟩ (.mk K) := by
  have hnd := nextJ_nd L R.length
  obtain ⟨L', e1, e2, e3, e4, e5, e6⟩ := puts_rowsX (G := G) (N := N) (L := L) (w := w) (nextJ_len L R.length) hnd
  have free : ∀ j, L.length ≤ j → (⟨G, N, L⟩ : AHeap).get (nid N j) = .free := fun j hj => by rw [get_new, gd_len hj]
  have ndN : (nid N L.length :: (nextJ L R.length).map (nid N)).Nodup := by
    rw [← List.map_cons, List.nodup_iff_pairwise_ne, List.pairwise_map]
    exact (List.nodup_iff_pairwise_ne.1 hnd).imp fun h e => h (by unfold nid at e; omega)
  have out : ∀ p ∈ rs, p.1 ≠ nid N L.length ∧ p.1 ∉ (nextJ L R.length).map (nid N) := fun p hp => by
    have h2 := h1 p hp
    refine ⟨fun e => (by rw [e, free _ (Nat.le_refl _)] at h2; cases h2), fun e => ?_⟩
    obtain ⟨j, hj, e⟩ := List.mem_map.1 e
    rw [← e, free j (by have := nextJ_mem hj; omega)] at h2
    cases h2
  have idb : ∀ z ∈ nid N L.length :: (rowsW ((nextJ L R.length).map (nid N)) R).map (·.1), nid N L.length ≤ z := by
    intro z hz
    rcases List.mem_cons.1 hz with rfl | hz
    · exact Nat.le_refl _
    · obtain ⟨q, hq, rfl⟩ := List.mem_map.1 hz
      obtain ⟨i, h2, rfl⟩ := rowsW_mem (by rw [List.length_map, nextJ_len]) q hq
      have : ((nextJ L R.length).map (nid N)).getD i 0 ∈ (nextJ L R.length).map (nid N) := getD_mem (by rw [List.length_map, nextJ_len]; exact h2)
      obtain ⟨j, hj, e⟩ := List.mem_map.1 this
      dsimp only
      rw [← e]
      have := nextJ_mem hj
      unfold nid; omega
  refine call_intro (hs _ _ ndN (by rw [List.length_map, nextJ_len]) out) h1 (fun p hp => ?_) ?_
  · right
    rcases List.mem_cons.1 hp with rfl | hp
    · exact free _ (Nat.le_refl _)
    · obtain ⟨i, h2, rfl⟩ := rowsW_mem (by rw [List.length_map, nextJ_len]) p hp
      have : ((nextJ L R.length).map (nid N)).getD i 0 ∈ (nextJ L R.length).map (nid N) := getD_mem (by rw [List.length_map, nextJ_len]; exact h2)
      obtain ⟨j, hj, e⟩ := List.mem_map.1 this
      dsimp only
      rw [← e]
      exact free j (by have := nextJ_mem hj; omega)
  · refine hK _ L' ⟨_, idb, fun i F => consF_rw⟩ e1 (Nat.le_antisymm (e3 _ (by omega) fun j hj => ?_) ?_) e4 e5 fun j hj => e6 j fun hm => ?_
    · rcases List.mem_cons.1 hj with rfl | hj
      · omega
      · have := nextJ_mem hj; omega
    · by_cases h0 : R.length = 0
      · have h3 : L.length < L'.length := by
          apply Classical.byContradiction
          intro hh
          rw [gd_len (by omega)] at e4
          cases e4
        omega
      · have := e5.lt ((nextJ L R.length).getD (R.length - 1) 0) (getD_mem (by rw [nextJ_len]; omega))
        rw [nextJ_get (by omega)] at this
        omega
    · rcases List.mem_cons.1 hm with rfl | hm
      · omega
      · have := nextJ_mem hm; omega
theorem call_rowsK {P : Program} {G : Heap} {N : Nat} {L : List Slot} {f : FuncId} {args : List AV} {K : Kont} {val : Nat → AV} {rs : List (Nat × AObj)} {w : Nat} {R : List (List Int)}
    (hs : ∀ x ys, (x :: ys).Nodup → ys.length = R.length → (∀ p ∈ rs, p.1 ≠ x ∧ p.1 ∉ ys) → FSpec P f args (val x) rs ((x, .live ⟨rowC ys w, true⟩) :: rowsW ys R)) (h1 : ∀ p ∈ rs, (⟨G, N, L⟩ : AHeap).get p.1 = .live p.2)
    (hK : ∀ ws L' J, NewRowsK G N L w R rs ws L' J → K (val (nid N L.length)) rs ws) : vCall P f args ⟨G, N, L⟩ (.mk K) :=
  call_rowsX hs h1 fun ws L' a1 a2 a3 a4 a5 a6 => hK ws L' _ ⟨a1, a2, a3, a4, a5, fun j hj => (nextJ_mem hj).1, a6⟩

end Go.Proofs.Ytcmmbnhdfkcpdaa
