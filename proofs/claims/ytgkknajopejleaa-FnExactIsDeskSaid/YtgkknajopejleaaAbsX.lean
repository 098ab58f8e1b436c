/- Two new objects at once. -/
import Derived.Test.YtgkknajopejleaaAbsW
namespace Go.Abs
set_option linter.unusedVariables false
section
variable {P : Program}
theorem call_new2 {f : FuncId} {args : List AV} {h : AHeap} {K : Kont} {val : Nat → Nat → AV} {rs : List (Nat × AObj)} {s t : Slot} {y : Nat}
    (hs : ∀ k k', k ≠ k' → (∀ p ∈ rs, p.1 ≠ k) → (∀ p ∈ rs, p.1 ≠ k') → FSpec P f args (val k k') rs [(k, s), (k', t)]) (h1 : ∀ p ∈ rs, h.get p.1 = .live p.2) (hne : h.nxt ≠ y) (hf : h.get h.nxt = .free) (hf' : h.get y = .free) (hK : K (val h.nxt y) rs [(h.nxt, s), (y, t)]) : vCall P f args h (.mk K) := by
  refine call_intro (hs h.nxt y hne (fun p hp e => ?_) (fun p hp e => ?_)) h1 ?_ hK
  · have := h1 p hp; rw [e, hf] at this; cases this
  · have := h1 p hp; rw [e, hf'] at this; cases this
  · intro p hp
    simp only [List.mem_cons, List.not_mem_nil, or_false] at hp
    rcases hp with rfl | rfl
    · exact .inr hf
    · exact .inr hf'
theorem nxt_free' {A : Heap} {N : Nat} {L : List Slot} : (⟨A, N, L⟩ : AHeap).get (nid N (L.length + 1)) = .free := by
  rw [get_new, gd_eq, List.getD_eq_getElem?_getD, List.getElem?_eq_none (by omega)]; rfl
theorem nxt_ne {A : Heap} {N : Nat} {L : List Slot} : (⟨A, N, L⟩ : AHeap).nxt ≠ nid N (L.length + 1) := by
  simp only [AHeap.nxt, nid]; omega
theorem rd4 {A : Heap} {N : Nat} {L : List Slot} {a b c d : Nat} {oa ob oc od : AObj} (ha : gd L a = .live oa) (hb : gd L b = .live ob) (hc : gd L c = .live oc) (hd : gd L d = .live od) : ∀ p ∈ ([(nid N a, oa)] ++ [(nid N b, ob)]) ++ ([(nid N c, oc)] ++ [(nid N d, od)]), (⟨A, N, L⟩ : AHeap).get p.1 = .live p.2 := by
  simp only [List.mem_append, List.mem_singleton]; rintro p ((rfl | rfl) | (rfl | rfl)) <;> rw [get_new] <;> assumption
theorem list10 {α : Type} {xs : List α} (h : xs.length = 10) : ∃ a b c d e f g i j k, xs = [a, b, c, d, e, f, g, i, j, k] := by
  match xs, h with
  | [a, b, c, d, e, f, g, i, j, k], _ => exact ⟨a, b, c, d, e, f, g, i, j, k, rfl⟩
variable {G : Heap} {N : Nat} {L : List Slot} {T : List AV}
theorem ret_obj2 (hN : ∀ k, N ≤ k → G k = .free) (n m jn jm : Nat) (cs ds : List Cell) {rs : List ResultVar} {val : AV} (vs : List AV) (hr : resAll P T ⟨G, N, L⟩ rs vs) (hne : n ≠ m) (hj : jn ≠ jm) (hn : G n = .free) (hm : G m = .free)
    (hL : gd L jn = .live ⟨cs, true⟩) (hL' : gd L jm = .live ⟨ds, true⟩) (hc : Abs.flat cs) (hd : Abs.flat ds)
    (hp : plainT val = true) (hi : ∀ i ∈ val.idsT, i = n ∨ i = m) (he : resOf vs = renT (fun k => if k = n then nid N jn else if k = m then nid N jm else k) val) : retS P rs G N val [(n, .live ⟨cs, true⟩), (m, .live ⟨ds, true⟩)] .ret T ⟨G, N, L⟩ := by
  have h := ret_news (P := P) (T := T) (L := L) hN [(n, jn, cs), (m, jm, ds)] (by simpa using hne) (by simpa using hj) (by simp only [List.mem_cons, List.not_mem_nil, or_false]; rintro x (rfl | rfl) <;> assumption)
    (by simp only [List.mem_cons, List.not_mem_nil, or_false]; rintro x (rfl | rfl)
        · rw [map_flat hc]; exact hL
        · rw [map_flat hd]; exact hL')
    (by simp only [List.mem_cons, List.not_mem_nil, or_false]; rintro x (rfl | rfl) c hcc i hi
        · rw [hc c hcc] at hi; cases hi
        · rw [hd c hcc] at hi; cases hi) (rs := rs) (val := val) vs hr (by
      rw [he]
      exact Named.of hp fun i hh => by simpa using hi i hh)
  exact h
end
end Go.Abs
