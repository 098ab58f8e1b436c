/- Two new objects at once. -/
import Derived.Test.YtgkknajopejleaaAbsW
namespace Go.Abs
set_option linter.unusedVariables false
section
variable {P : Program}
theorem call_new2 {f : FuncId} {args : List AV} {h : AHeap} {K : Kont} {val : Nat → Nat → AV} {rs : List (Nat × AObj)} {s t : Slot} {y : Nat}
    (hs : ∀ k k', k ≠ k' → (∀ p ∈ rs, p.1 ≠ k) → (∀ p ∈ rs, p.1 ≠ k') → FSpec P f args (val k k') rs [(k, s), (k', t)]) (h1 : ∀ p ∈ rs, h.get p.1 = .live p.2) (hne : h.nxt ≠ y) (hf : h.get h.nxt = .free) (hf' : h.get y = .free) (hK : K (val h.nxt y) rs [(h.nxt, s), (y, t)]) : vCall P f args h (.mk K) := by
  refine call_intro (hs h.nxt y hne (fun p hp e => ?_) (fun p hp e => ?_)) h1 ?_ hK
  · have := h1 p hp; rw [e, hf] at this; cases this
  · have := h1 p hp; rw [e, hf'] at this; cases this
  · intro p hp
    simp only [List.mem_cons, List.not_mem_nil, or_false] at hp
    rcases hp with rfl | rfl
    · exact .inr hf
    · exact .inr hf'
theorem nxt_free' {A : Heap} {N : Nat} {L : List Slot} : (⟨A, N, L⟩ : AHeap).get (nid N (L.length + 1)) = .free := by
  rw [get_new, gd_eq, List.getD_eq_getElem?_getD, List.getElem?_eq_none (by omega)]; rfl
theorem nxt_ne {A : Heap} {N : Nat} {L : List Slot} : (⟨A, N, L⟩ : AHeap).nxt ≠ nid N (L.length + 1) := by
  simp only [AHeap.nxt, nid]; omega
@[go_sem] theorem setAt_again : ∀ {L : List Slot} {i : Nat} {s t : Slot}, setAt (setAt L i s) i t = setAt L i t
  | [], 0, _, _ => rfl
  | [], i + 1, s, t => congrArg (Slot.free :: ·) (setAt_again (L := []) (i := i) (s := s) (t := t))
  | _ :: _, 0, _, _ => rfl
  | x :: L, i + 1, s, t => congrArg (x :: ·) (setAt_again (L := L) (i := i) (s := s) (t := t))
/-- Operations in whatever order, where what is written and what else is touched can be told apart by counting alone. -/
def apB (a b : List Nat) : Bool := a.isEmpty || b.isEmpty
def confB : List (Nat × Nat) → Foot → Bool
  | [], _ => true
  | (i, j) :: U, F => apB (lk F i).2 (lk F j).1 && apB (lk F i).2 (lk F j).2 && apB (lk F i).1 (lk F j).2 && confB U F
theorem apart_of {a b : List Nat} (h : apB a b = true) : apart a b := by
  cases a with
  | nil => trivial
  | cons x a =>
    cases b with
    | cons => simp [apB] at h
    | nil =>
      clear h
      have : ∀ a : List Nat, apart a [] := by
        intro a
        induction a with
        | nil => trivial
        | cons x a ih => exact ⟨trivial, ih⟩
      exact this _
theorem conf_of : ∀ {U : List (Nat × Nat)} {F : Foot}, confB U F = true → confV U F
  | [], _, _ => trivial
  | (i, j) :: U, F, h => by
    simp only [confB, Bool.and_eq_true] at h
    exact ⟨⟨apart_of h.1.1.1, apart_of h.1.1.2, apart_of h.1.2⟩, conf_of h.2⟩
theorem must_conf {U : List (Nat × Nat)} {F : Foot} {X : Prop} (h : confB U F = true) (hX : X) : must (confV U F) (.mk X) := ⟨conf_of h, hX⟩
def confT (F : Foot) (q : Nat × Nat) : Bool := apB (lk F q.1).2 (lk F q.2).1 && apB (lk F q.1).2 (lk F q.2).2 && apB (lk F q.1).1 (lk F q.2).2
theorem conf_filter {F : Foot} : ∀ {U : List (Nat × Nat)}, confV (U.filter fun q => !confT F q) F → confV U F
  | [], _ => trivial
  | (i, j) :: U, h => by
    cases e : confT F (i, j) with
    | true =>
      rw [List.filter_cons_of_neg (by simp [e])] at h
      simp only [confT, Bool.and_eq_true] at e
      exact ⟨⟨apart_of e.1.1, apart_of e.1.2, apart_of e.2⟩, conf_filter h⟩
    | false =>
      rw [List.filter_cons_of_pos (by simp [e])] at h
      exact ⟨h.1, conf_filter h.2⟩
theorem must_confF {U : List (Nat × Nat)} {F : Foot} {X : Prop} (V : List (Nat × Nat)) (h0 : (U.filter fun q => !confT F q) = V) (h : confV V F) (hX : X) : must (confV U F) (.mk X) := ⟨conf_filter (by rw [h0]; exact h), hX⟩
theorem rd4 {A : Heap} {N : Nat} {L : List Slot} {a b c d : Nat} {oa ob oc od : AObj} (ha : gd L a = .live oa) (hb : gd L b = .live ob) (hc : gd L c = .live oc) (hd : gd L d = .live od) : ∀ p ∈ ([(nid N a, oa)] ++ [(nid N b, ob)]) ++ ([(nid N c, oc)] ++ [(nid N d, od)]), (⟨A, N, L⟩ : AHeap).get p.1 = .live p.2 := by
  simp only [List.mem_append, List.mem_singleton]; rintro p ((rfl | rfl) | (rfl | rfl)) <;> rw [get_new] <;> assumption
theorem list10 {α : Type} {xs : List α} (h : xs.length = 10) : ∃ a b c d e f g i j k, xs = [a, b, c, d, e, f, g, i, j, k] := by
  match xs, h with
  | [a, b, c, d, e, f, g, i, j, k], _ => exact ⟨a, b, c, d, e, f, g, i, j, k, rfl⟩
variable {G : Heap} {N : Nat} {L : List Slot} {T : List AV}
theorem ret_obj2 (hN : ∀ k, N ≤ k → G k = .free) (n m jn jm : Nat) (cs ds : List Cell) {rs : List ResultVar} {val : AV} (vs : List AV) (hr : resAll P T ⟨G, N, L⟩ rs vs) (hne : n ≠ m) (hj : jn ≠ jm) (hn : G n = .free) (hm : G m = .free)
    (hL : gd L jn = .live ⟨cs, true⟩) (hL' : gd L jm = .live ⟨ds, true⟩) (hc : Abs.flat cs) (hd : Abs.flat ds)
    (hp : plainT val = true) (hi : ∀ i ∈ val.idsT, i = n ∨ i = m) (he : resOf vs = renT (fun k => if k = n then nid N jn else if k = m then nid N jm else k) val) : retS P rs G N val [(n, .live ⟨cs, true⟩), (m, .live ⟨ds, true⟩)] .ret T ⟨G, N, L⟩ := by
  have h := ret_news (P := P) (T := T) (L := L) hN [(n, jn, cs), (m, jm, ds)] (by simpa using hne) (by simpa using hj) (by simp only [List.mem_cons, List.not_mem_nil, or_false]; rintro x (rfl | rfl) <;> assumption)
    (by simp only [List.mem_cons, List.not_mem_nil, or_false]; rintro x (rfl | rfl)
        · rw [map_flat hc]; exact hL
        · rw [map_flat hd]; exact hL')
    (by simp only [List.mem_cons, List.not_mem_nil, or_false]; rintro x (rfl | rfl) c hcc i hi
        · rw [hc c hcc] at hi; cases hi
        · rw [hd c hcc] at hi; cases hi) (rs := rs) (val := val) vs hr (by
      rw [he]
      exact Named.of hp fun i hh => by simpa using hi i hh)
  exact h
end
end Go.Abs
