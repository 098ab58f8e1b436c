/- What opened arguments hold. -/
import Derived.Test.YtgkknajopejleaaAbsT
namespace Go.Abs
open Go.RowKit (Below)
set_option linter.unusedVariables false
section
variable {P : Program} {G : Heap} {d : Nat} {u e : TypeId} {c : Cell} {k : IntKind}
def numC : Cell → Int | .int _ z => z | _ => 0
theorem OkC.int (hu : P.underlying u = some (.int k)) (h : OkC P G (d + 1) u c) : ∃ n, c = .int k n ∧ (Lit.int k n).wf = true := by
  simpa only [OkC, hu] using h
theorem OkC.bool (hu : P.underlying u = some .bool) (h : OkC P G (d + 1) u c) : ∃ b, c = .bool b := by
  simpa only [OkC, hu] using h
theorem OkC.str (hu : P.underlying u = some .string) (h : OkC P G (d + 1) u c) : ∃ s : ByteArray, c = .str s ∧ s.size ≤ maxLen := by
  simpa only [OkC, hu] using h
theorem OkC.ints {m : Nat} {t' : TypeId} (hu : P.underlying u = some (.slice e)) (hes : P.cellsOf e = m) (hm : 0 < m) (hts : fl P 10 e = some (List.replicate m t')) (ht' : P.underlying t' = some (.int k)) (h : OkC P G (d + 2) u c) :
    ∃ (l : List Int) (n : Nat) (rs : List (Nat × AObj)), Sl m (l.map (Cell.int k)) n c rs ∧ (∀ q ∈ rs, G q.1 = .live q.2) ∧ l.length = n * m ∧ n ≤ maxLen ∧ ∀ z ∈ l, (Lit.int k z).wf = true := by
  rw [OkC] at h
  simp only [hu] at h
  rcases h with rfl | ⟨kk, len, cells, ts, rfl, h2, h3, h4, h5, h6, h7⟩
  · exact ⟨[], 0, [], .nil rfl rfl, by simp, by simp, Nat.zero_le _, by simp⟩
  · rw [hts] at h4
    cases h4
    rw [hes] at h6 h7
    have each : ∀ (q : Nat) (x : Cell), cells[q]? = some x → ∃ z, x = .int k z ∧ (Lit.int k z).wf = true := by
      intro q x hx
      have hq : q < len * m := by rw [← h6]; exact (List.getElem?_eq_some_iff.1 hx).1
      have e1 : q / m * m + q % m = q := by rw [Nat.mul_comm]; exact Nat.div_add_mod q m
      have := h7 (q / m) (q % m) x ((Nat.div_lt_iff_lt_mul hm).2 hq) t' (by rw [List.getElem?_replicate, if_pos (Nat.mod_lt _ hm)]) (by rw [e1]; exact hx)
      exact OkC.int ht' this
    have hcells : cells = (cells.map numC).map (Cell.int k) := by
      rw [List.map_map]
      refine (List.map_id cells).symm.trans (List.map_congr_left fun x hx => ?_)
      obtain ⟨q, hq⟩ := List.getElem?_of_mem hx
      obtain ⟨z, rfl, _⟩ := each q x hq
      rfl
    refine ⟨cells.map numC, len, [(kk, ⟨cells, false⟩)], ?_, by simpa using h2, by simpa using h6, h3, ?_⟩
    · rw [← hcells, hes]
      exact .mk kk false h6
    · intro z hz
      obtain ⟨x, hx, rfl⟩ := List.mem_map.1 hz
      obtain ⟨q, hq⟩ := List.getElem?_of_mem hx
      obtain ⟨z, rfl, hz'⟩ := each q x hq
      exact hz'
end
section
variable {H : Type} {enc : TypeId × Value → H} {P : Program} {w : World}
theorem open_cell {D : Nat} {t : TypeId} {v : Value} {dd : DataW H} {ps : List MemPlace} (hg : good P D t = true) (hv : v.cells.toList = [v]) (h : DataW.Trod enc P w 0 (fun _ => true) true t v dd ps) (μ : LMap) (G : Heap) (hR : Rel w.heap.size μ G w) (hM : ∃ M, ∀ k, M ≤ k → G k = .free) :
    Opened P w μ G fun μ' G' => ∃ x, OkC P G' D t x ∧ RepV μ' (.c x) v := by
  obtain ⟨fuel, hf⟩ := h
  rw [hv] at hf
  obtain ⟨μ', G', h1, h2, h3, h4, x, h5, h6⟩ := open1 (enc := enc) D t v hg ⟨fuel, _, hf⟩ μ G hR hM
  exact ⟨μ', G', h1, h2, h3, h4, x, h5, .c h6⟩
theorem open_agg {D : Nat} {t : TypeId} {ts : List TypeId} {cs : Array Value} {dd : DataW H} {ps : List MemPlace} (hts : fl P 10 t = some ts) (hg : ts.all (good P D) = true) (h : DataW.Trod enc P w 0 (fun _ => true) true t (.agg cs) dd ps) (μ : LMap) (G : Heap) (hR : Rel w.heap.size μ G w) (hM : ∃ M, ∀ k, M ≤ k → G k = .free) :
    Opened P w μ G fun μ' G' => ∃ xs : List Cell, xs.length = ts.length ∧ (∀ (i : Nat) (u : TypeId) (x : Cell), ts[i]? = some u → xs[i]? = some x → OkC P G' D u x) ∧ RepV μ' (.agg xs) (.agg cs) := by
  obtain ⟨fuel, hf⟩ := h
  have hf' : DataW.trod enc P w 0 (fun _ => true) true fuel t cs.toList = some (dd, ps) := hf
  have hfl := trod_fl 10 t ts hts hf'
  obtain ⟨μ', G', h1, h2, h3, h4, xs, h5, h6, h7⟩ := openMany (enc := enc) (open1 D) ts cs.toList (by simpa using hfl.1.symm) (fun i u v hu hv => by
    obtain ⟨v', e1, e2⟩ := hfl.2 i u hu
    rw [hv] at e1; cases e1
    exact ⟨List.all_eq_true.1 hg _ (List.mem_of_getElem? hu), e2⟩) μ G hR hM
  exact ⟨μ', G', h1, h2, h3, h4, xs, h5, h6, by simpa using RepV.agg h7⟩
end
theorem RepVs.cons {μ : LMap} {a : AV} {as : List AV} {v : Value} {vs : List Value} (h : RepV μ a v) (hs : RepVs μ as vs) : RepVs μ (a :: as) (v :: vs) := ⟨h, hs⟩
theorem list5 {α : Type} {xs : List α} (h : xs.length = 5) : ∃ a b c d e, xs = [a, b, c, d, e] := by
  match xs, h with
  | [a, b, c, d, e], _ => exact ⟨a, b, c, d, e, rfl⟩
end Go.Abs
